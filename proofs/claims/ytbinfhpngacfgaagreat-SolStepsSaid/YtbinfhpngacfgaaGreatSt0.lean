/-
  Parts: EngC EngF EngR.
-/
import Derived.CallsIn
import Derived.DefersIn
import Derived.RangeFuncLeaves
set_option linter.all false
set_option linter.unusedSimpArgs false
set_option linter.unusedVariables false
namespace Go.Abs
inductive AW where
 |int (k:IntKind) (n:Int)
 |bool (b:Bool)
 |str (s:ByteArray)
 |lst (es:List (List AW))
 |nilp|nilf|nili|nilm
abbrev Id:=List Nat
def Id.is:Id→Id→Bool
 |[],[]=>true
 |n::l,m::k=>match Nat.beq n m with
  |true=>Id.is l k
  |false=>false
 |_,_=>false
def Id.under(ρ:Id):Id→Bool
 |[]=>Id.is ρ []
 |n::l=>match Id.is ρ (n::l)with
  |true=>true
  |false=>Id.under ρ l
inductive AV where
 |d (x:AW)
 |nils
 |emp
 |osl (id:Id) (off len:Nat)
 |ptr (id:Id) (off:Nat)
 |eptr (id:Id) (i off:Nat)
 |iptr (cs:List AW)
 |fn (f:FuncId) (first cap:List AV)
 |yld (id:Id)
 |mp (id:Id)
 |iface (t:TypeId) (v:AV)
 |agg (cs:List AV)
 |tup (vs:List AV)
 |undef
abbrev BS:=List (Nat×AV)
def BS.get:BS→Nat→AV
 |[],_=>.undef
 |(k,v)::e,t=>match Nat.beq k t with
  |true=>v
  |false=>BS.get e t
structure Lp where
 state:LoopState
 pend:Option Code
 f:FuncId
 env:BS
 params:List Nat
 asg:Code
 body:Code
 nt:Nat
inductive Obj where
 |box (cs:List AV)
 |darr (sz:Nat) (es:List (List AW))
 |fro (sz:Nat) (es:List (List AW))
 |arr (sz:Nat) (es:List (List AV))
 |map (es:List (AW×AV))
 |loop (r:Lp)
abbrev AB:=List (Id×Obj)
def AB.get:AB→Id→Option Obj
 |[],_=>none
 |(k,o)::h,id=>match Id.is k id with
  |true=>some o
  |false=>AB.get h id
mutual
def AW.same:AW→AW→Bool
 |.int k n,.int k' m=>decide (k=k')&&decide (n=m)
 |.bool a,.bool b=>match a,b with
  |true,true=>true
  |false,false=>true
  |_,_=>false
 |.str a,.str b=>decide (a.data.toList=b.data.toList)
 |.lst a,.lst b=>AW.samess a b
 |.nilp,.nilp=>true
 |.nilf,.nilf=>true
 |.nili,.nili=>true
 |.nilm,.nilm=>true
 |_,_=>false
def AW.sames:List AW→List AW→Bool
 |[],[]=>true
 |x::l,y::m=>match AW.same x y with
  |true=>AW.sames l m
  |false=>false
 |_,_=>false
def AW.samess:List (List AW)→List (List AW)→Bool
 |[],[]=>true
 |x::l,y::m=>match AW.sames x y with
  |true=>AW.samess l m
  |false=>false
 |_,_=>false
end
mutual
theorem AW.same_eq: ∀{a b:AW},AW.same a b=true→a=b
 |.int k n,b,h=>by
  cases b<;>simp[AW.same]at h;rw[h.1,h.2]
 |.bool a,b,h=>by
  cases b<;>simp[AW.same]at h;rename_i b;cases a<;>cases b<;>simp at h<;>rfl
 |.str a,b,h=>by
  cases b<;>simp[AW.same]at h;rename_i b;cases a;cases b;simp at h;rw[h]
 |.lst a,b,h=>by
  cases b<;>simp[AW.same]at h;rw[AW.samess_eq h]
 |.nilp,b,h=>by cases b<;>simp[AW.same]at h;rfl
 |.nilf,b,h=>by cases b<;>simp[AW.same]at h;rfl
 |.nili,b,h=>by cases b<;>simp[AW.same]at h;rfl
 |.nilm,b,h=>by cases b<;>simp[AW.same]at h;rfl
theorem AW.sames_eq: ∀{a b:List AW},AW.sames a b=true→a=b
 |[],b,h=>by cases b<;>simp[AW.sames]at h;rfl
 |x::l,[],h=>by simp[AW.sames]at h
 |x::l,y::m,h=>by
  unfold AW.sames at h;split at h
  .rename_i h1;rw[AW.same_eq h1,AW.sames_eq h]
  .cases h
theorem AW.samess_eq: ∀{a b:List (List AW)},AW.samess a b=true→a=b
 |[],b,h=>by cases b<;>simp[AW.samess]at h;rfl
 |x::l,[],h=>by simp[AW.samess]at h
 |x::l,y::m,h=>by
  unfold AW.samess at h;split at h
  .rename_i h1;rw[AW.sames_eq h1,AW.samess_eq h]
  .cases h
end
theorem Id.is_eq: ∀{a b:Id},Id.is a b=true→a=b
 |[],[],_=>rfl
 |[],_::_,h=>by simp[Id.is]at h
 |_::_,[],h=>by simp[Id.is]at h
 |n::l,m::k,h=>by
  unfold Id.is at h;split at h
  .rename_i h1;rw[Nat.eq_of_beq_eq_true h1,Id.is_eq h]
  .cases h
mutual
def AV.same:AV→AV→Bool
 |.d x,.d y=>AW.same x y
 |.nils,.nils=>true
 |.emp,.emp=>true
 |.osl i a b,.osl j a' b'=>Id.is i j&&(Nat.beq a a'&&Nat.beq b b')
 |.ptr i a,.ptr j b=>Id.is i j&&Nat.beq a b
 |.eptr i a b,.eptr j a' b'=>Id.is i j&&(Nat.beq a a'&&Nat.beq b b')
 |.fn f a b,.fn g a' b'=>Nat.beq f g&&(AV.sames a a'&&AV.sames b b')
 |.yld i,.yld j=>Id.is i j
 |.mp i,.mp j=>Id.is i j
 |.iface t v,.iface u w=>Nat.beq t u&&AV.same v w
 |.agg l,.agg m=>AV.sames l m
 |.tup l,.tup m=>AV.sames l m
 |.undef,.undef=>true
 |_,_=>false
def AV.sames:List AV→List AV→Bool
 |[],[]=>true
 |x::l,y::m=>match AV.same x y with
  |true=>AV.sames l m
  |false=>false
 |_,_=>false
end
mutual
theorem AV.same_eq: ∀{a b:AV},AV.same a b=true→a=b
 |.d x,b,h=>by
  cases b<;>simp[AV.same]at h;rw[AW.same_eq h]
 |.agg l,b,h=>by
  cases b<;>simp[AV.same]at h;rw[AV.sames_eq h]
 |.tup l,b,h=>by
  cases b<;>simp[AV.same]at h;rw[AV.sames_eq h]
 |.nils,b,h=>by cases b<;>simp[AV.same]at h;rfl
 |.emp,b,h=>by cases b<;>simp[AV.same]at h;rfl
 |.undef,b,h=>by cases b<;>simp[AV.same]at h;rfl
 |.osl ..,b,h=>by
  cases b<;>simp[AV.same]at h;rw[Id.is_eq h.1,h.2.1,h.2.2]
 |.ptr ..,b,h=>by
  cases b<;>simp[AV.same]at h;rw[Id.is_eq h.1,h.2]
 |.eptr ..,b,h=>by
  cases b<;>simp[AV.same]at h;rw[Id.is_eq h.1,h.2.1,h.2.2]
 |.iptr _,b,h=>by simp[AV.same]at h
 |.fn f a c,b,h=>by
  cases b<;>simp[AV.same]at h;rw[h.1,AV.sames_eq h.2.1,AV.sames_eq h.2.2]
 |.yld _,b,h=>by
  cases b<;>simp[AV.same]at h;rw[Id.is_eq h]
 |.mp _,b,h=>by
  cases b<;>simp[AV.same]at h;rw[Id.is_eq h]
 |.iface t v,b,h=>by
  cases b<;>simp[AV.same]at h;rw[h.1,AV.same_eq h.2]
theorem AV.sames_eq: ∀{a b:List AV},AV.sames a b=true→a=b
 |[],b,h=>by cases b<;>simp[AV.sames]at h;rfl
 |x::l,[],h=>by simp[AV.sames]at h
 |x::l,y::m,h=>by
  unfold AV.sames at h;split at h
  .rename_i h1;rw[AV.same_eq h1,AV.sames_eq h]
  .cases h
end
def Obj.same:Obj→Option Obj→Bool
 |.box l,some (.box m)=>AV.sames l m
 |.darr a l,some (.darr b m)=>Nat.beq a b&&AW.samess l m
 |.fro a l,some (.fro b m)=>Nat.beq a b&&AW.samess l m
 |_,_=>false
theorem Obj.same_eq{a:Obj}{b:Option Obj}(h:Obj.same a b=true):b=some a:=by
 unfold Obj.same at h;split at h
 .rw[AV.sames_eq h]
 .simp only[Bool.and_eq_true]at h;rw[Nat.eq_of_beq_eq_true h.1,AW.samess_eq h.2]
 .simp only[Bool.and_eq_true]at h;rw[Nat.eq_of_beq_eq_true h.1,AW.samess_eq h.2]
 .cases h
def TG(h h':AB):List Id:=((h++h').filter fun p=>match h.get p.1 with
 |some o=> !Obj.same o (h'.get p.1)
 |none=>true).map (·.1)
theorem AB.get_mem: ∀{h:AB} {id:Id} {o:Obj},h.get id=some o→(id,o)∈h
 |[],_,_,hg=>by cases hg
 |(k,o')::h,id,o,hg=>by
  unfold AB.get at hg;split at hg
  .rename_i h1;cases hg;rw[Id.is_eq h1];simp
  .exact List.mem_cons_of_mem _ (AB.get_mem hg)
theorem gx{h h':AB}{id:Id}(hi:id∉TG h h'):h'.get id=h.get id:=by
 have key: ∀o,(id,o)∈h++h'→h'.get id=h.get id:=fun o ho=>by
  have: ¬(match h.get id with|some o=> !Obj.same o (h'.get id)|none=>true)=true:=fun hc=>
   hi (List.mem_map.2 ⟨(id,o),List.mem_filter.2 ⟨ho,hc⟩,rfl⟩)
  split at this
  .rename_i o2 h2;rw[h2];exact Obj.same_eq (by simpa using this)
  .exact absurd rfl this
 cases h1:h.get id with
 |some o=>rw[←h1];exact key o (List.mem_append_left _ (AB.get_mem h1))
 |none=>cases h2:h'.get id with
  |some o=>rw[←h1,←h2];exact key o (List.mem_append_right _ (AB.get_mem h2))
  |none=>rfl
def AB.put:AB→Id→Obj→AB
 |[],id,o=>[(id,o)]
 |(k,x)::h,id,o=>match Id.is k id with
  |true=>(k,o)::h
  |false=>(k,x)::AB.put h id o
def AB.puts(h:AB)(δ:AB):AB:=δ.foldl (fun h p=>h.put p.1 p.2) h
inductive TK where
 |bool|int|str|func|ptr|iface|slice|map|other
 |flat (ks:List TK)
structure TI where
 kind:TK
 size:Nat
 agg:Bool
 str:Bool
 zero:List AV
 flds:List (Nat×Nat×Bool)
 elem:TypeId
 key:TypeId
 mix:Bool
inductive Mode where
 |auto|own|raw|ro
 deriving DecidableEq
structure CG where
 T:TypeId→Option TI
 mode:FuncId→Mode
 live:FuncId→Nat→List Nat
 pairs:FuncId→Nat→List (Nat×Nat)
 alone:FuncId→Nat→Nat→Bool
 caught:FuncId→Option TypeId
 meth:TypeId→String→Option FuncId
 good:FuncId→Bool
def C1:Value→AV
 |.int k n=>.d (.int k n)
 |.bool b=>.d (.bool b)
 |.string s=>.d (.str s)
 |.slice none 0 0=>.nils
 |.pointer none=>.d .nilp
 |.nilFunc=>.d .nilf
 |.nilIface=>.d .nili
 |.map none=>.d .nilm
 |_=>.undef
def ev(e:Nat→AV):Operand→AV
 |.tmp t=>e t
 |.const v=>C1 v
 |.func f=>.fn f [] []
 |.global _=>.undef
def AV.cells:AV→List AV
 |.agg cs=>cs
 |v=>[v]
def AV.isCell:AV→Bool
 |.agg _=>false
 |.tup _=>false
 |.undef=>false
 |_=>true
def Ey(agg:Bool)(cs:List AV):Option AV:=
 if agg then some (.agg cs)else match cs with
  |[c]=>some c
  |_=>none
def Iw{α:Type}(l:List α)(off n:Nat):Option (List α):=
 if off+n≤l.length then some ((l.drop off).take n)else none
def Bm{α:Type}(l:List α)(off:Nat)(new:List α):Option (List α):=
 if off+new.length≤l.length then some (l.take off++new++l.drop (off+new.length))else none
structure Bz where
 v:AV
 δ:AB:=[]
abbrev G:=Id→Option Obj
def NF:Option Obj→Option (List (List AV))
 |some (.darr _ es)=>some (es.map (·.map .d))
 |some (.fro _ es)=>some (es.map (·.map .d))
 |some (.arr _ es)=>some es
 |_=>none
def IY(g:G)(i:TI):AV→Option AV
 |.ptr id off=>match g id with
  |some (.box cs)=>(Iw cs off i.size).bind (Ey i.agg)
  |_=>none
 |.eptr id k off=>match g id with
  |some (.darr _ es)=>match es[k]? with
   |some e=>(Iw e off i.size).bind fun ds=>Ey i.agg (ds.map .d)
   |none=>none
  |some (.fro _ es)=>match es[k]? with
   |some e=>(Iw e off i.size).bind fun ds=>Ey i.agg (ds.map .d)
   |none=>none
  |some (.arr _ es)=>match es[k]? with
   |some e=>(Iw e off i.size).bind (Ey i.agg)
   |none=>none
  |_=>none
 |.iptr cs=>(Iw cs 0 i.size).bind fun ds=>Ey i.agg (ds.map .d)
 |_=>none
section force
variable{α:Type}
def Hj(n:Nat)(k:Nat→α):α:=match n with
 |0=>k 0
 |m+1=>k (Nat.succ m)
def zW(b:Bool)(k:Bool→α):α:=match b with
 |true=>k true
 |false=>k false
def AAP(n:Int)(k:Int→α):α:=match n with
 |.ofNat m=>Hj m fun m=>k (.ofNat m)
 |.negSucc m=>Hj m fun m=>k (.negSucc m)
def zY(x:IntKind)(k:IntKind→α):α:=match x with
 |.i8=>k .i8|.i16=>k .i16|.i32=>k .i32|.i64=>k .i64
 |.u8=>k .u8|.u16=>k .u16|.u32=>k .u32|.u64=>k .u64
def NU(l:List Nat)(k:List Nat→α):α:=match l with
 |[]=>k []
 |n::l=>Hj n fun n=>NU l fun l=>k (n::l)
def iK(x:AW)(k:AW→α):α:=match x with
 |.int kd n=>zY kd fun kd=>AAP n fun n=>k (.int kd n)
 |.bool b=>zW b fun b=>k (.bool b)
 |.str s=>k (.str s)
 |.lst es=>k (.lst es)
 |.nilp=>k .nilp
 |.nilf=>k .nilf
 |.nili=>k .nili
 |.nilm=>k .nilm
def XG(l:List AW)(k:List AW→α):α:=match l with
 |[]=>k []
 |x::l=>iK x fun x=>XG l fun l=>k (x::l)
def OY(l:List (List AW))(k:List (List AW)→α):α:=match l with
 |[]=>k []
 |x::l=>XG x fun x=>OY l fun l=>k (x::l)
def qD(x:AW)(k:AW→α):α:=match x with
 |.lst es=>OY es fun es=>k (.lst es)
 |x=>iK x k
def qC(v:AV)(k:AV→α):α:=match v with
 |.d x=>qD x fun x=>k (.d x)
 |.nils=>k .nils
 |.emp=>k .emp
 |.osl id off len=>NU id fun id=>Hj off fun off=>Hj len fun len=>k (.osl id off len)
 |.ptr id off=>NU id fun id=>Hj off fun off=>k (.ptr id off)
 |.eptr id i off=>NU id fun id=>Hj i fun i=>Hj off fun off=>k (.eptr id i off)
 |.iptr cs=>XG cs fun cs=>k (.iptr cs)
 |.fn f a b=>Hj f fun f=>k (.fn f a b)
 |.yld id=>NU id fun id=>k (.yld id)
 |.mp id=>NU id fun id=>k (.mp id)
 |.iface t v=>Hj t fun t=>k (.iface t v)
 |.agg cs=>k (.agg cs)
 |.tup vs=>k (.tup vs)
 |.undef=>k .undef
def Qt(l:List AV)(k:List AV→α):α:=match l with
 |[]=>k []
 |x::l=>qC x fun x=>Qt l fun l=>k (x::l)
def Z9(v:AV)(k:AV→α):α:=match v with
 |.agg cs=>Qt cs fun cs=>k (.agg cs)
 |.tup vs=>Qt vs fun vs=>k (.tup vs)
 |.fn f a b=>Hj f fun f=>Qt a fun a=>Qt b fun b=>k (.fn f a b)
 |.iface t v=>Hj t fun t=>qC v fun v=>k (.iface t v)
 |v=>qC v k
def Ky(l:List AV)(k:List AV→α):α:=match l with
 |[]=>k []
 |x::l=>Z9 x fun x=>Ky l fun l=>k (x::l)
def fAV(v:AV)(k:AV→α):α:=match v with
 |.tup vs=>Ky vs fun vs=>k (.tup vs)
 |.agg cs=>Ky cs fun cs=>k (.agg cs)
 |.iface t v=>Hj t fun t=>Z9 v fun v=>k (.iface t v)
 |v=>Z9 v k
def er(l:List (List AV))(k:List (List AV)→α):α:=match l with
 |[]=>k []
 |x::l=>Ky x fun x=>er l fun l=>k (x::l)
def NR(l:List (AW×AV))(k:List (AW×AV)→α):α:=match l with
 |[]=>k []
 |(x,v)::l=>iK x fun x=>Z9 v fun v=>NR l fun l=>k ((x,v)::l)
def AAQ(o:Obj)(k:Obj→α):α:=match o with
 |.box cs=>Ky cs fun cs=>k (.box cs)
 |.darr sz es=>Hj sz fun sz=>OY es fun es=>k (.darr sz es)
 |.fro sz es=>Hj sz fun sz=>OY es fun es=>k (.fro sz es)
 |.arr sz es=>Hj sz fun sz=>er es fun es=>k (.arr sz es)
 |.map es=>NR es fun es=>k (.map es)
 |.loop r=>k (.loop r)
def Qv(h:AB)(k:AB→α):α:=match h with
 |[]=>k []
 |(id,o)::h=>NU id fun id=>AAQ o fun o=>Qv h fun h=>k ((id,o)::h)
def GB(h:AB)(k:AB→α):α:=match h with
 |[]=>k []
 |(id,o)::h=>GB h fun h=>k ((id,o)::h)
def vu(e:BS)(k:BS→α):α:=match e with
 |[]=>k []
 |(t,v)::e=>Hj t fun t=>Z9 v fun v=>vu e fun e=>k ((t,v)::e)
def TS(e:BS)(k:BS→α):α:=match e with
 |[]=>k []
 |p::e=>k (p::e)
end force
def Ea(g:G):AV→Option AW
 |.d x=>some x
 |.nils=>some (.lst [])
 |.emp=>some (.lst [])
 |.osl id off n=>match g id with
  |some (.darr _ es)=>(Iw es off n).map .lst
  |some (.fro _ es)=>(Iw es off n).map .lst
  |_=>none
 |_=>none
def Cb(g:G):List AV→Option (List AW)
 |[]=>some []
 |v::vs=>match Ea g v,Cb g vs with
  |some x,some xs=>some (x::xs)
  |_,_=>none
def Cj(g:G):List (List AV)→Option (List (List AW))
 |[]=>some []
 |v::vs=>match Cb g v,Cj g vs with
  |some x,some xs=>some (x::xs)
  |_,_=>none
def Dp(g:G):AV→Option AW
 |.osl id off n=>match g id with
  |some (.arr _ es)=>match Cj g es with
   |some ds=>(Iw ds off n).map .lst
   |none=>none
  |_=>Ea g (.osl id off n)
 |v=>Ea g v
def GD(g:G):List AV→Option (List AV)
 |[]=>some []
 |v::vs=>match Dp g v,GD g vs with
  |some x,some xs=>some (.d x::xs)
  |_,_=>none
def EF(g:G):AV→Option AV
 |.agg cs=>(GD g cs).map .agg
 |.fn f [] []=>some (.fn f [] [])
 |.iface t (.agg cs)=>(GD g cs).map fun c=>.iface t (.agg c)
 |.iface t v=>(Dp g v).map fun x=>.iface t (.d x)
 |v=>(Dp g v).map .d
def DT(g:G):List AV→Option (List AV)
 |[]=>some []
 |v::vs=>match EF g v,DT g vs with
  |some x,some xs=>some (x::xs)
  |_,_=>none
def Vy(g:G):AV→Option AV
 |.tup vs=>(DT g vs).map .tup
 |v=>EF g v
def JI(g:G):AV→AB
 |.osl id _ _=>match g id with
  |some (.darr sz es)=>[(id,.fro sz es)]
  |_=>[]
 |_=>[]
def Bd(g:G)(l:List AV):AB:=l.flatMap (JI g)
def Ew(g:G):AV→AB
 |.osl id off n=>match g id with
  |some (.darr sz es)=>[(id,.fro sz es)]
  |some (.arr sz es)=>match Cj g es with
   |some ds=>(id,.fro sz ds)::es.flatMap (Bd g)
   |none=>[]
  |_=>[]
 |_=>[]
def Jw:AV→List AV
 |.agg cs=>cs
 |.iface _ (.agg cs)=>cs
 |.iface _ v=>[v]
 |v=>[v]
def mark(g:G)(v:AV):AB:=(Jw v).flatMap (Ew g)
def Dg:AW→Bool
 |.lst _=>false
 |_=>true
def Ev:List AV→Bool
 |[]=>true
 |.d x::vs=>Dg x&&Ev vs
 |_=>false
def flat:AV→Bool
 |.d x=>Dg x
 |.nils=>true
 |.emp=>true
 |.agg cs=>Ev cs
 |.tup vs=>Ev vs
 |.iface _ (.d x)=>Dg x
 |.iface _ (.agg cs)=>Ev cs
 |_=>false
def BL(v:AV)(h:AB):Option (Id×Obj):=
 match v with
 |.osl id _ _=>match h.get id with
  |some (.darr sz es)=>if es.all (·.all Dg)then some (id,.darr sz es)else none
  |_=>none
 |_=>none
def LD(id:Id)(δ:AB):Bool:=δ.all fun p=> !Id.is p.1 id
def Im(g:G)(i:TI)(a v:AV):Option Bz:=
 match v.cells.length==i.size&&v.cells.all AV.isCell with
 |false=>none
 |true=>match a with
  |.ptr id off=>match g id with
   |some (.box cs)=>(Bm cs off v.cells).map fun cs'=>⟨.undef,[(id,.box cs')]⟩
   |_=>none
  |.eptr id k off=>match g id with
   |some (.darr sz es)=>match es[k]?,Cb g v.cells,LD id (Bd g v.cells)with
    |some e,some ds,true=>(Bm e off ds).map fun e'=>⟨.undef,Bd g v.cells++[(id,.darr sz (es.set k e'))]⟩
    |_,_,_=>none
   |some (.arr sz es)=>match es[k]? with
    |some e=>(Bm e off v.cells).map fun e'=>⟨.undef,[(id,.arr sz (es.set k e'))]⟩
    |none=>none
   |_=>none
  |_=>none
def Fx{α:Type}(sz:Nat):Nat→List α→List (List α)
 |0,_=>[]
 |n+1,l=>l.take sz::Fx sz n (l.drop sz)
def A4:Nat:=2 ^ 30
def newArr(g:G)(newId:Id)(j:TI)(es:List (List AV)):Option Bz:=
 match es.all (fun e=>e.length==j.size&&e.all AV.isCell)&&Nat.blt 0 j.size&&Nat.ble es.length A4 with
 |false=>none
 |true=>match j.mix with
  |true=>some ⟨.osl (1::newId) 0 es.length,[(1::newId,.arr j.size es)]⟩
  |false=>match Cj g es with
   |some ds=>some ⟨.osl (1::newId) 0 es.length,es.flatMap (Bd g)++[(1::newId,.darr j.size ds)]⟩
   |none=>none
def DN(g:G):AV→Option (List (List AV))
 |.d (.lst es)=>some (es.map (·.map .d))
 |.nils=>some []
 |.emp=>some []
 |.osl id off n=>(NF (g id)).bind fun es=>Iw es off n
 |_=>none
def appIn(g:G)(newId:Id)(id:Id)(off n sz:Nat)(es:List (List AW))(src:List (List AV)):Option Bz:=
 match Cj g src,LD id (src.flatMap (Bd g))with
 |some ds,true=>match Bm es (off+n) ds with
  |some es'=>some ⟨.osl id off (n+ds.length),src.flatMap (Bd g)++[(id,.darr sz es')]⟩
  |none=>match Nat.beq off 0&&Nat.ble (n+ds.length) A4 with
   |true=>some ⟨.osl (1::newId) 0 (n+ds.length),src.flatMap (Bd g)++[(id,.fro 0 []),(1::newId,.darr sz (es.take n++ds))]⟩
   |false=>none
 |_,_=>none
def appMix(newId:Id)(id:Id)(off n sz:Nat)(es:List (List AV))(src:List (List AV)):Option Bz:=
 match Bm es (off+n) src with
 |some es'=>some ⟨.osl id off (n+src.length),[(id,.arr sz es')]⟩
 |none=>match Nat.beq off 0&&Nat.ble (n+src.length) A4 with
  |true=>some ⟨.osl (1::newId) 0 (n+src.length),[(id,.fro 0 []),(1::newId,.arr sz (es.take n++src))]⟩
  |false=>none
def appTo(g:G)(newId:Id)(j:TI)(s:AV)(src:List (List AV)):Option Bz:=
 match s with
 |.nils=>newArr g newId j src
 |.emp=>newArr g newId j src
 |.osl id off n=>match g id with
  |some (.darr sz es)=>match Nat.beq sz j.size&&Nat.ble (off+n) es.length with
   |true=>appIn g newId id off n sz es src
   |false=>none
  |some (.arr sz es)=>match Nat.beq sz j.size&&Nat.ble (off+n) es.length with
   |true=>appMix newId id off n sz es src
   |false=>none
  |_=>none
 |_=>none
def appendV(g:G)(newId:Id)(j:TI)(s x:AV):Option Bz:=
 match DN g x with
 |none=>none
 |some []=>match s with
  |.nils=>some ⟨.nils,[]⟩
  |.emp=>some ⟨.emp,[]⟩
  |.osl id off n=>some ⟨.osl id off n,[]⟩
  |_=>none
 |some src=>match src.all (fun c=>c.length==j.size&&c.all AV.isCell)&&Nat.ble src.length A4&&Nat.blt 0 j.size with
  |true=>appTo g newId j s src
  |false=>none
def E1(op:BinOp)(k:IntKind)(a b:Int):Option AV:=
 match op with
 |.add=>some (.d (.int k (k.wrap (a+b))))
 |.sub=>some (.d (.int k (k.wrap (a-b))))
 |.mul=>some (.d (.int k (k.wrap (a*b))))
 |.eql=>some (.d (.bool (a==b)))
 |.neq=>some (.d (.bool (a !=b)))
 |.lss=>some (.d (.bool (decide (a<b))))
 |.leq=>some (.d (.bool (decide (a≤b))))
 |.gtr=>some (.d (.bool (decide (b<a))))
 |.geq=>some (.d (.bool (decide (b≤a))))
 |.rem=>if b=0 then none else some (.d (.int k (a.tmod b)))
 |.quo=>if b=0 then none else some (.d (.int k (k.wrap (a.tdiv b))))
 |_=>none
def Fu:TK→AV→AV→Option Bool
 |.int,.d (.int k a),.d (.int k' b)=>if k=k' then some (a==b)else none
 |.bool,.d (.bool a),.d (.bool b)=>some (a==b)
 |.str,.d (.str a),.d (.str b)=>some (a==b)
 |_,_,_=>none
def Dx:List TK→List AV→List AV→Option Bool
 |[],[],[]=>some true
 |t::ts,x::xs,y::ys=>match Fu t x y,Dx ts xs ys with
  |some a,some b=>some (a&&b)
  |_,_=>none
 |_,_,_=>none
def IC:TK→AV→AV→Option Bool
 |.flat ks,.agg cs,.agg ds=>Dx ks cs ds
 |.func,.fn ..,.d .nilf=>some false
 |.func,.d .nilf,.d .nilf=>some true
 |.ptr,.ptr ..,.d .nilp=>some false
 |.ptr,.d .nilp,.d .nilp=>some true
 |.iface,.iface ..,.d .nili=>some false
 |.slice,.d (.lst (_::_)),.nils=>some false
 |.slice,.osl _ _ (_+1),.nils=>some false
 |.slice,.nils,.nils=>some true
 |.bool,x,y=>Fu .bool x y
 |.str,x,y=>Fu .str x y
 |_,_,_=>none
def tr(op:BinOp)(a b:ByteArray):Option AV:=
 match op with
 |.lss=>some (.d (.bool (Op.bytesLess a.toList b.toList)))
 |.leq=>some (.d (.bool (Op.bytesLess a.toList b.toList||a.toList==b.toList)))
 |.gtr=>some (.d (.bool (!(Op.bytesLess a.toList b.toList||a.toList==b.toList))))
 |.geq=>some (.d (.bool (!Op.bytesLess a.toList b.toList)))
 |_=>none
def ACy(op:BinOp):AV→AV→Option AV
 |.d (.str a),.d (.str b)=>tr op a b
 |_,_=>none
def IE(op:BinOp)(x y:AV)(t:Option TI):Option AV:=
 match x,y with
 |.d (.int k a),.d (.int k' b)=>if k=k' then E1 op k a b else none
 |x,y=>match t with
  |some i=>match op,IC i.kind x y with
   |.eql,some b=>some (.d (.bool b))
   |.neq,some b=>some (.d (.bool (!b)))
   |_,_=>ACy op x y
  |none=>none
def Xz:Operand→Bool
 |.const _=>true
 |_=>false
def sf(c:Bool)(op:BinOp):AV→AV→Option TI→Option AV
 |.d .nili,.d .nili,some i=>match c,i.kind,op with
  |true,.iface,.eql=>some (.d (.bool true))
  |true,.iface,.neq=>some (.d (.bool false))
  |_,_,_=>none
 |_,_,_=>none
def orV:Option AV→Option AV→Option AV
 |some v,_=>some v
 |none,r=>r
def fu(c:Bool)(op:BinOp)(x y:AV)(t:Option TI):Option AV:=orV (IE op x y t) (sf c op x y t)
def VS(g:G):TK→AV→Option Nat
 |.slice,.d (.lst es)=>some es.length
 |.str,.d (.str s)=>some s.size
 |.slice,.nils=>some 0
 |.slice,.emp=>some 0
 |.slice,.osl _ _ n=>some n
 |.map,.mp id=>match g id with
  |some (.map es)=>some es.length
  |_=>none
 |_,_=>none
def CQ:(place:Nat→Option (Nat×Nat))→List AV→List (Nat×AV)→Option (List AV)
 |_,cs,[]=>some cs
 |pl,cs,(i,v)::ps=>match pl i with
  |some (off,size)=>if v.cells.length=size∧v.cells.all AV.isCell then(Bm cs off v.cells).bind fun cs'=>CQ pl cs' ps else none
  |none=>none
def HT:AV→Option Int
 |.d (.int _ n)=>some n
 |_=>none
def Ga:Option AV→Int→Option Int
 |none,d=>some d
 |some v,_=>HT v
def DZ(lo hi mx:Option AV)(n:Nat):Option (Nat×Nat×Option Nat):=
 match Ga lo 0,Ga hi n with
 |some l,some r=>match mx with
  |none=>if 0≤l∧l≤r then some (l.toNat,r.toNat,none)else none
  |some m=>match hi,HT m with
   |some _,some m=>if 0≤l∧l≤r∧r≤m then some (l.toNat,r.toNat,some m.toNat)else none
   |_,_=>none
 |_,_=>none
def Lg(sz:Nat)(es:List (List AW)):Bool:=match es with
 |[]=>true
 |e::_=>Nat.beq e.length sz
def O2(sz:Nat)(es:List (List AW)):Option (Nat×Nat×Option Nat)→Option AV
 |some (l,r,m)=>match Nat.ble r es.length&&Lg sz es with
  |true=>match m with
   |none=>some (.d (.lst ((es.drop l).take (r-l))))
   |some m=>match Nat.beq m l with
    |true=>some .emp
    |false=>none
  |false=>none
 |none=>none
def aE(sz:Nat)(id:Id)(off l r:Nat)(m:Option Nat)(s n:Nat):Option AV:=
 match Nat.beq s sz&&Nat.ble (off+m.getD r) n&&Nat.ble (off+r) n&&Nat.blt 0 n with
 |true=>match m with
  |none=>some (.osl id (off+l) (r-l))
  |some m=>match Nat.beq m l with
   |true=>some .emp
   |false=>some .undef
 |false=>none
def M3(g:G)(sz:Nat)(id:Id)(off:Nat):Option (Nat×Nat×Option Nat)→Option AV
 |some (l,r,m)=>match g id with
  |some (.darr s es)=>aE sz id off l r m s es.length
  |some (.fro s es)=>aE sz id off l r m s es.length
  |some (.arr s es)=>aE sz id off l r m s es.length
  |_=>none
 |none=>none
def ZG:Option (Nat×Nat×Option Nat)→Option AV
 |some (0,0,none)=>some .nils
 |some (0,0,some 0)=>some .emp
 |_=>none
def te(s:ByteArray):Option (Nat×Nat×Option Nat)→Option AV
 |some (l,r,none)=>if r≤s.size then some (.d (.str (s.extract l r)))else none
 |_=>none
def EN(g:G)(k:TK)(sz:Nat)(x:AV)(lo hi mx:Option AV):Option AV:=
 match k,x with
 |.slice,.d (.lst es)=>O2 sz es (DZ lo hi mx es.length)
 |.slice,.osl id off n=>M3 g sz id off (DZ lo hi mx n)
 |.slice,.nils=>ZG (DZ lo hi mx 0)
 |.str,.d (.str s)=>te s (DZ lo hi mx s.size)
 |_,_=>none
def Di(e:Nat→AV)(ps:Array (Nat×Operand)):List (Nat×AV):=ps.toList.map fun p=>(p.1,ev e p.2)
def GU:AW→AW→Option Bool
 |.int k a,.int k' b=>if k=k' then some (a==b)else none
 |.str a,.str b=>some (a==b)
 |.bool a,.bool b=>some (a==b)
 |_,_=>none
def Ch:List (AW×AV)→AW→Option (Option AV)
 |[],_=>some none
 |(k,v)::es,x=>match GU k x with
  |some true=>some (some v)
  |some false=>Ch es x
  |none=>none
def Dq:List (AW×AV)→AW→AV→List (AW×AV)
 |[],x,v=>[(x,v)]
 |(k,w)::es,x,v=>match GU k x with
  |some true=>(k,v)::es
  |_=>(k,w)::Dq es x v
def Kr:AV→Option AW
 |.d x=>some x
 |_=>none
def JH:TK→AW→Bool
 |.int,.int ..=>true
 |.str,.str _=>true
 |.bool,.bool _=>true
 |_,_=>false
def mapPut(T:TypeId→Option TI)(g:G)(t:Option TI)(m k v:AV):Option Bz:=
 match(match t,Kr k with
  |some i,some x=>match i.kind,T i.key with
   |.map,some kt=>JH kt.kind x&&v.isCell
   |_,_=>false
  |_,_=>false)with
 |false=>none
 |true=>match m,Kr k with
 |.mp id,some x=>match g id with
  |some (.map es)=>match Ch es x with
   |some _=>some ⟨.undef,[(id,.map (Dq es x v))]⟩
   |none=>none
  |_=>none
 |_,_=>none
section ops
variable(T:TypeId→Option TI)(e:Nat→AV)(g:G)(newId:Id)
def Mw(c a b:AV):Option Bz:=match c with
 |.d (.bool t)=>some ⟨match t with|true=>a|false=>b,[]⟩
 |_=>none
def JL:Option TI→Option Bz
 |some i=>if i.zero.length=i.size∧i.zero.all AV.isCell then some ⟨.ptr (0::newId) 0,[(0::newId,.box i.zero)]⟩else none
 |none=>none
def Pc(x:AV):Option TI→Option Bz
 |some i=>if x.cells.length=i.size∧x.cells.all AV.isCell then some ⟨.ptr (0::newId) 0,[(0::newId,.box x.cells)]⟩else none
 |none=>none
def JM(ps:List (Nat×AV)):Option TI→Option Bz
 |some i=>match i.str&&i.zero.length==i.size with
  |false=>none
  |true=>(CQ (fun k=>(i.flds[k]?).map fun f=>(f.1,f.2.1)) i.zero ps).map fun cs=>⟨.agg cs,[]⟩
 |none=>none
def Ft(n:Nat)(ps:List (Nat×AV))(j:TI):Option Bz:=
 match CQ (fun k=>some (k*j.size,j.size)) ((List.replicate n j.zero).flatten) ps with
 |some cs=>match n with
  |0=>some ⟨.emp,[]⟩
  |n=>match Nat.ble (n*j.size) (2 ^ 24)&&j.zero.length==j.size with
   |true=>newArr g newId j (Fx j.size n cs)
   |false=>none
 |none=>none
def CN(n:Nat)(ps:List (Nat×AV)):Option TI→Option Bz
 |some i=>match i.kind,T i.elem with
  |.slice,some j=>Ft g newId n ps j
  |_,_=>none
 |none=>none
def KR(a:AV):Option TI→Option Bz
 |some i=>(IY g i a).map (⟨·,[]⟩)
 |none=>none
def Ho(a x:AV):Option TI→Option Bz
 |some i=>Im g i a x
 |none=>none
def FX:AV→Option Bz
 |.ptr id off=>some ⟨.ptr id off,[]⟩
 |.eptr id k off=>some ⟨.eptr id k off,[]⟩
 |.iptr cs=>some ⟨.iptr cs,[]⟩
 |_=>none
def fM:AV→Option Bz
 |.d (.bool b)=>some ⟨.d (.bool (!b)),[]⟩
 |_=>none
def HD(t:TypeId):AV→Option TI→Option Bz
 |.iface t' v,some i=>match i.kind with
  |.iface=>none
  |_=>if t'=t then some ⟨.tup [v,.d (.bool true)],[]⟩else(Ey i.agg i.zero).map fun z=>⟨.tup [z,.d (.bool false)],[]⟩
 |_,_=>none
def KM(ok:Bool)(r:Option AV)(j:TI):Option Bz:=
 match r,Ey j.agg j.zero with
 |some v,_=>some ⟨match ok with|true=>.tup [v,.d (.bool true)]|false=>v,[]⟩
 |none,some z=>some ⟨match ok with|true=>.tup [z,.d (.bool false)]|false=>z,[]⟩
 |_,_=>none
def Ee(m k:AV)(ok:Bool):Option TI→Option Bz
 |some i=>match m,Kr k,i.kind,T i.key with
  |.mp id,some x,.map,some kt=>match JH kt.kind x,g id with
   |true,some (.map es)=>match Ch es x,T i.elem with
    |some r,some j=>KM ok r j
    |_,_=>none
   |_,_=>none
  |_,_,_,_=>none
 |none=>none
def FJ(n:Nat)(j:TI):Option Bz:=match n with
 |0=>some ⟨.emp,[]⟩
 |n=>newArr g newId j (List.replicate n j.zero)
def CW(l c:AV):Option TI→Option Bz
 |some i=>match i.kind,T i.elem,l,c with
  |.slice,some j,.d (.int _ n),.d (.int _ m)=>if 0≤n∧n=m∧n≤A4 then FJ g newId n.toNat j else none
  |_,_,_,_=>none
 |none=>none
def Dw(k:Nat)(x:AV):Option TI→Option Bz
 |some i=>match i.flds[k]? with
  |some f=>match f.2.1 with
   |0=>none
   |_=>match x with
    |.ptr id off=>some ⟨.ptr id (off+f.1),[]⟩
    |.eptr id n off=>some ⟨.eptr id n (off+f.1),[]⟩
    |.iptr cs=>if f.1≤cs.length then some ⟨.iptr (cs.drop f.1),[]⟩else none
    |_=>none
  |none=>none
 |none=>none
def L5(k:Nat)(x:AV):Option TI→Option Bz
 |some i=>match i.flds[k]?,x with
  |some f,.agg cs=>((Iw cs f.1 f.2.1).bind (Ey f.2.2)).map (⟨·,[]⟩)
  |_,_=>none
 |none=>none
def MQ(n:Int)(x:AV)(j:TI):Option Bz:=
 if 0≤n then match x with
  |.d (.lst es)=>match es[n.toNat]? with
   |some c=>match Nat.beq c.length j.size with
    |true=>some ⟨.iptr c,[]⟩
    |false=>none
   |none=>none
  |.osl id off len=>if n.toNat<len then match g id with
   |some (.darr sz es)=>if sz=j.size∧off+n.toNat<es.length then some ⟨.eptr id (off+n.toNat) 0,[]⟩else none
   |some (.fro sz es)=>if sz=j.size∧off+n.toNat<es.length then some ⟨.eptr id (off+n.toNat) 0,[]⟩else none
   |some (.arr sz es)=>if sz=j.size∧off+n.toNat<es.length then some ⟨.eptr id (off+n.toNat) 0,[]⟩else none
   |_=>none
   else none
  |_=>none
 else none
def Cl(x i:AV):Option TI→Option Bz
 |some t=>match i,t.kind,T t.elem with
  |.d (.int _ n),.slice,some j=>MQ g n x j
  |_,_,_=>none
 |none=>none
def KQ(x i:AV)(t:Option TI):Option Bz:=match t.map TI.kind,x,i with
 |some .str,.d (.str s),.d (.int _ n)=>if 0≤n then(s.data.toList[n.toNat]?).map fun b=>⟨.d (.int .u8 b.toNat),[]⟩else none
 |_,_,_=>none
def H0(k:Nat)(x:AV):Option Bz:=match x with
 |.tup vs=>(vs[k]?).map (⟨·,[]⟩)
 |_=>none
def HC(t u:Option TI)(s x:AV):Option Bz:=
 match t,u with
 |some i,some u=>match i.kind,u.kind,T i.elem with
  |.slice,.slice,some j=>appendV g newId j s x
  |_,_,_=>none
 |_,_=>none
def Gr(id:Id)(off n:Nat)(j:TI):Option Bz:=
 match g id with
 |some (.darr sz es)=>match Cb (fun _=>none) j.zero with
  |some z=>if z.length=sz∧j.zero.length=j.size∧j.zero.all AV.isCell∧0<sz then(Bm es off (List.replicate n z)).map fun es'=>⟨.undef,[(id,.darr sz es')]⟩else none
  |none=>none
 |_=>none
def FK(t:Option TI)(x:AV):Option Bz:=
 match t with
 |some i=>match i.kind,x with
  |.slice,.osl id off n=>match n with
   |0=>some ⟨.undef,[]⟩
   |n=>match T i.elem with
    |some j=>Gr g id off n j
    |none=>none
  |.slice,.nils=>some ⟨.undef,[]⟩
  |.slice,.emp=>some ⟨.undef,[]⟩
  |_,_=>none
 |none=>none
def YP(x y:AV):Option Bz:=match x,y with
 |.d (.int k a),.d (.int k' b)=>if k=k' then some ⟨.d (.int k (if b>a then b else a)),[]⟩else none
 |_,_=>none
def YQ(x y:AV):Option Bz:=match x,y with
 |.d (.int k a),.d (.int k' b)=>if k=k' then some ⟨.d (.int k (if b<a then b else a)),[]⟩else none
 |_,_=>none
def Ff(b:Builtin)(as:List AV)(ts:List TypeId):Option Bz:=
 match b with
 |.len=>match as with
  |[x]=>match ts with
   |[t]=>match T t with
    |some i=>(VS g i.kind x).map fun(n:Nat)=>⟨.d (.int .i64 (n:Int)),[]⟩
    |none=>none
   |_=>none
  |_=>none
 |.append=>match as,ts with
  |[s,x],[t,u]=>HC T g newId (T t) (T u) s x
  |_,_=>none
 |.clear=>match as,ts with
  |[x],[t]=>FK T g (T t) x
  |_,_=>none
 |.max=>match as with
  |[x,y]=>YP x y
  |_=>none
 |.min=>match as with
  |[x,y]=>YQ x y
  |_=>none
 |_=>none
def JZ(c:Call):Option Bz:=match c.callee with
 |.builtin b=>Ff T g newId b (c.args.toList.map (ev e)) c.argTypes.toList
 |_=>none
def lX(op:UnOp)(x:AV):Option Bz:=match op with
 |.not=>fM x
 |_=>none
def FW(f:Fn)(a b:List AV):Option Bz:=match f with
 |.func f=>some ⟨.fn f a b,[]⟩
 |_=>none
def Gg:Option Operand→Option Bz
 |none=>some ⟨.mp (1::newId),[(1::newId,.map [])]⟩
 |some _=>none
def KP(t:TypeId)(x:AV):Option TI→Option Bz
 |some i=>match i.kind with
  |.iface=>none
  |_=>some ⟨.iface t x,[]⟩
 |none=>none
def G0(x:AV)(lo hi mx:Option AV):Option TI→Option Bz
 |some i=>match i.kind,T i.elem with
  |.slice,some j=>(EN g .slice j.size x lo hi mx).map (⟨·,[]⟩)
  |.str,_=>(EN g .str 0 x lo hi mx).map (⟨·,[]⟩)
  |_,_=>none
 |none=>none
def evalOp(o:Op):Option Bz:=
 match o with
 |.move x=>some ⟨ev e x,[]⟩
 |.assign x=>some ⟨ev e x,[]⟩
 |.pick c a b=>Mw (ev e c) (ev e a) (ev e b)
 |.alloc t=>JL newId (T t)
 |.box t x=>Pc newId (ev e x) (T t)
 |.build t ps=>JM (Di e ps) (T t)
 |.buildSlice t n ps=>CN T g newId n (Di e ps) (T t)
 |.load t a=>KR g (ev e a) (T t)
 |.store t a x=>Ho g (ev e a) (ev e x) (T t)
 |.nilCheck x=>FX (ev e x)
 |.binOp op t x y _=>(fu (Xz x||Xz y) op (ev e x) (ev e y) (T t)).map (⟨·,[]⟩)
 |.unOp op _ x=>lX op (ev e x)
 |.makeInterface t x=>KP t (ev e x) (T t)
 |.typeAssert x _ t ok=>match ok with
  |true=>HD t (ev e x) (T t)
  |false=>none
 |.makeFunc f first cap=>FW f (first.toList.map (ev e)) (cap.toList.map (ev e))
 |.makeMap _ r=>Gg newId r
 |.insert t m k v=>mapPut T g (T t) (ev e m) (ev e k) (ev e v)
 |.mapUpdate t m k v=>mapPut T g (T t) (ev e m) (ev e k) (ev e v)
 |.lookup t m k ok=>Ee T g (ev e m) (ev e k) ok (T t)
 |.makeSlice t l c=>CW T g newId (ev e l) (ev e c) (T t)
 |.slice t x lo hi mx=>G0 T g (ev e x) (lo.map (ev e)) (hi.map (ev e)) (mx.map (ev e)) (T t)
 |.fieldAddr t x k=>Dw k (ev e x) (T t)
 |.field t x k=>L5 k (ev e x) (T t)
 |.indexAddr t x i=>Cl T g (ev e x) (ev e i) (T t)
 |.index t x i=>KQ (ev e x) (ev e i) (T t)
 |.extract x k=>H0 k (ev e x)
 |.call c=>JZ T e g newId c
 |_=>none
end ops
structure Fr where
 f:FuncId
 π:List Nat
 raw:Bool
 prot:Option (List Nat)
 rnd:Bool:=false
 nt:Nat
inductive Df where
 |mark (id:Id)
 |call (f:FuncId) (args:List AV)
structure St where
 env:BS
 heap:AB
 base:Nat
 defs:List Df
inductive z5 where
 |fn (f:FuncId)
 |round (id:Id) (r:Lp)
inductive AZ where
 |ret (v:AV)
 |pan (v:AV)
inductive E(α:Type) where
 |ok (x:α)
 |err (l:List Nat)
abbrev AL:=z5→List AV→AB→List Nat→Bool→Option (List Nat)→E (AZ×AB)
structure Fp where
 rd:Option (List Id):=some []
 wr:Option (List Id):=some []
inductive GR where
 |ok (st:St) (fp:Fp)
 |pan (v:AV) (st:St)
 |err (l:List Nat)
mutual
def AE:AV→List Id
 |.osl id _ _=>[id]
 |.ptr id _=>[id]
 |.eptr id _ _=>[id]
 |.yld id=>[id]
 |.mp id=>[id]
 |.iface _ v=>AE v
 |.agg cs=>Al cs
 |.tup vs=>Al vs
 |.fn _ a b=>Al a++Al b
 |_=>[]
def Al:List AV→List Id
 |[]=>[]
 |v::vs=>AE v++Al vs
end
def CX(g:G)(l:List Id):List Id:=l++l.flatMap fun id=>match g id with
 |some (.arr _ es)=>es.flatMap Al
 |_=>[]
def Dh(e:Nat→AV)(op:Op):List Id:=op.operands.toList.flatMap fun y=>AE (ev e y)
def FC(e:Nat→AV)(g:G)(op:Op):List Id:=match op with
 |.load ..=>Dh e op
 |.store ..=>Dh e op
 |.buildSlice ..=>Dh e op
 |.insert ..=>Dh e op
 |.mapUpdate ..=>Dh e op
 |.lookup ..=>Dh e op
 |.slice ..=>Dh e op
 |.indexAddr ..=>Dh e op
 |.call c=>match c.callee with
  |.builtin .len=>Dh e op
  |.builtin .clear=>Dh e op
  |.builtin .append=>CX g (Dh e op)
  |_=>[]
 |_=>[]
def JS(p:Option (List Nat))(δ:AB):Bool:=
 match p with
 |none=>true
 |some ρ=>δ.all fun x=>Id.under ρ x.1
def CD(e:BS)(dst:Option Tmp)(v:AV):BS:=
 match dst with
 |some t=>(t,v)::e
 |none=>e
def XH{α:Type}(h δ:AB)(k:AB→α):α:=match δ with
 |[]=>k h
 |δ=>GB (h.puts δ) k
def gc(ρ:List Nat)(h:AB):AB:=h.filter fun p=>match p.1 with
 |0::l=> !Id.under ρ l
 |_=>true
def De(ρ:List Nat)(dst:Option Tmp)(st:St):E (AZ×AB)→GR
 |.ok (.ret v,h)=>TS (CD st.env dst v) fun env=>GB (gc ρ h) fun heap=>.ok {st with env,heap} ⟨none,some (TG st.heap heap)⟩
 |.ok (.pan v,h)=>GB (gc ρ h) fun heap=>.pan v {st with heap}
 |.err l=>.err l
def G1(fr:Fr)(as:List AV)(v:AV)(h:AB)(st:St)(env:BS):GR:=
 match BL v h with
 |some o=>GB (o::st.heap) fun heap=>.ok {st with env,heap} ⟨some (CX st.heap.get (Al as)),some [o.1]⟩
 |none=>
  Qv (as.flatMap (mark st.heap.get)) fun δ=>
  match JS fr.prot δ with
  |true=>GB (h++st.heap.puts δ) fun heap=>.ok {st with env,heap} ⟨some (CX st.heap.get (Al as)),some (δ.map (·.1)++h.map (·.1))⟩
  |false=>.err [2]
def C5(fr:Fr)(as:List AV)(dst:Option Tmp)(st:St):E (AZ×AB)→GR
 |.ok (.ret v,h)=>TS (CD st.env dst v) fun env=>match flat v with
  |true=>.ok {st with env} ⟨some (CX st.heap.get (Al as)),some []⟩
  |false=>G1 fr as v h st env
 |.ok (.pan v,_)=>match flat v with
  |true=>.pan v st
  |false=>.err [3]
 |.err l=>.err l
def N3(dst:Option Tmp)(st:St):E (AZ×AB)→GR
 |.ok (.ret v,_)=>match flat v with
  |true=>TS (CD st.env dst v) fun env=>.ok {st with env} ⟨none,some []⟩
  |false=>.err [4]
 |.ok (.pan v,_)=>match flat v with
  |true=>.pan v st
  |false=>.err [3]
 |.err l=>.err l
def LY(g:G)(as:List AV):List AV:=as.map fun v=>(EF g v).getD v
def EW(K:AL)(fr:Fr)(ρ:List Nat)(f:FuncId)(as:List AV)(dst:Option Tmp)(st:St)(m:Mode):GR:=
 Ky (LY st.heap.get as) fun xs=>
 Qv (as.flatMap (mark st.heap.get)) fun δ=>
 match m with
 |.ro=>GB (st.heap.puts δ) fun heap=>N3 dst st (K (.fn f) xs heap ρ true (some ρ))
 |_=>
  match JS fr.prot δ with
  |true=>GB (st.heap.puts δ) fun heap=>De ρ dst st (K (.fn f) xs heap ρ true fr.prot)
  |false=>.err [2]
def DB(K:AL)(fr:Fr)(ρ:List Nat)(f:FuncId)(as:List AV)(dst:Option Tmp)(st:St)(m:Mode):GR:=
 match m with
 |.raw=>De ρ dst st (K (.fn f) as st.heap ρ true fr.prot)
 |m=>match DT st.heap.get as with
  |some xs=>Ky xs fun xs=>C5 fr as dst st (K (.fn f) xs [] (match m with|.own=>ρ|_=>[]) false none)
  |none=>EW K fr ρ f as dst st m
def JA(K:AL)(fr:Fr)(ρ:List Nat)(id:Id)(as:List AV)(dst:Option Tmp)(st:St):GR:=
 match st.heap.get id with
 |some (.loop r)=>De ρ dst st (K (.round id r) as st.heap ρ true fr.prot)
 |_=>.err [1]
def Da(C:CG)(K:AL)(fr:Fr)(ρ:List Nat)(fv:AV)(args:List AV)(dst:Option Tmp)(st:St):GR:=
 match fv with
 |.yld id=>JA K fr ρ id args dst st
 |.fn f first cap=>Ky (first++args++cap) fun as=>DB K fr ρ f as dst st (C.mode f)
 |_=>.err [5]
def E9(C:CG)(K:AL)(fr:Fr)(ρ:List Nat)(r:AV)(m:String)(args:List AV)(dst:Option Tmp)(st:St):GR:=
 match r with
 |.iface t v=>match C.meth t m with
  |some f=>Da C K fr ρ (.fn f [v] []) args dst st
  |none=>.err [7]
 |_=>.err [8]
def FH(st:St)(v:AV):GR:=match flat v with
 |true=>match v with
  |.iface t u=>.pan (.iface t u) st
  |_=>.err [9]
 |false=>.err [9]
def Gv(fr:Fr)(e:Nat→AV)(c:Call)(dst:Option Tmp)(st:St):GR:=match c.callee with
 |.value f=>match ev e f,fr.rnd with
  |.fn g [] [],false=>.ok {st with env:=CD st.env dst .undef,defs:=.call g (c.args.toList.map (ev e))::st.defs} ⟨none,none⟩
  |_,_=>.err [10]
 |_=>.err [10]
def C2(fr:Fr)(op:Op)(dst:Option Tmp)(st:St):Option Bz→GR
 |some x=>fAV x.v fun v=>Qv x.δ fun δ=>match JS fr.prot δ with
  |true=>TS (CD st.env dst v) fun env=>XH st.heap δ fun heap=>
   .ok {st with env,heap} ⟨some (FC st.env.get st.heap.get op),some (δ.map (·.1))⟩
  |false=>.err [11]
 |none=>.err [12]
def Az(C:CG)(K:AL)(fr:Fr)(ρ:List Nat)(op:Op)(dst:Option Tmp)(st:St):GR:=
 match op with
 |.call c=>match c.callee with
  |.value f=>Da C K fr ρ (ev st.env.get f) (c.args.toList.map (ev st.env.get)) dst st
  |.invoke r m=>E9 C K fr ρ (ev st.env.get r) m (c.args.toList.map (ev st.env.get)) dst st
  |.builtin _=>C2 fr op dst st (JZ C.T st.env.get st.heap.get ρ c)
 |.panic x=>FH st (ev st.env.get x)
 |.defer c=>Gv fr st.env.get c dst st
 |op=>C2 fr op dst st (evalOp C.T st.env.get st.heap.get ρ op)
def Lq(ops:Array Oper)(e:BS)(o:Oper):Option Bool:=
 match o.guard with
 |none=>some true
 |some (j,want)=>match((ops[j]?).bind (·.dst)).map e.get with
  |some (.d (.bool b))=>some (b==want)
  |some (.tup [])=>some false
  |_=>none
def B8(C:CG)(K:AL)(fr:Fr)(ops:Array Oper)(ρ:List Nat)(o:Oper)(st:St):GR:=
 match Lq ops st.env o with
 |none=>.err [6]
 |some false=>TS (CD st.env o.dst (.tup [])) fun env=>.ok {st with env} {}
 |some true=>Az C K fr ρ o.op o.dst st
def Uv(fp:Fp):E ((Option AV×St)×List Fp)→E ((Option AV×St)×List Fp)
 |.ok (r,fps)=>.ok (r,fp::fps)
 |.err l=>.err l
def Cn(C:CG)(K:AL)(fr:Fr)(ops:Array Oper)(b:Nat)(alone:Nat→Bool):List Oper→Nat→St→E ((Option AV×St)×List Fp)
 |[],_,st=>.ok ((none,st),[])
 |o::l,i,st=>Hj (b+i) fun n=>match B8 C K fr ops (n::fr.π) o st with
  |.ok st' fp=>Uv fp (Cn C K fr ops b alone l (i+1) st')
  |.pan v st'=>match alone i with
   |true=>.ok ((some v,st'),[])
   |false=>.err [13,i]
  |.err l=>.err (i::l)
def apart(a b:Option (List Id)):Bool:=
 match a,b with
 |some [],_=>true
 |_,some []=>true
 |some l,some m=>l.all fun x=> !m.contains x
 |_,_=>false
def Fp.apart(a b:Fp):Bool:=Abs.apart a.wr b.rd&&Abs.apart a.rd b.wr&&Abs.apart a.wr b.wr
def DI(fps:List Fp)(l:List (Nat×Nat)):Bool:=
 l.all fun(i,j)=>match fps[i]?,fps[j]? with
  |some a,some b=>a.apart b
  |_,_=>true
inductive DX where
 |normal
 |exit (id:Nat)
 |ret
 |pan (v:AV)
def KY(l:List Id)(id:Id):List Id:=match l.any (Id.is id)with|true=>l|false=>l++[id]
def EK(l:List Id)(new:List Id):List Id:=new.foldl KY l
def FV:Option Obj→List Id
 |some (.box cs)=>Al cs
 |some (.arr _ es)=>es.flatMap Al
 |some (.map es)=>es.flatMap fun p=>AE p.2
 |some (.loop r)=>r.env.flatMap fun p=>AE p.2
 |_=>[]
def Br(h:AB):Nat→List Id→Nat→List Id
 |0,l,_=>l
 |n+1,l,i=>match l[i]? with
  |some id=>Br h n (EK l (FV (h.get id))) (i+1)
  |none=>l
def DH(π:List Nat):List Id→Nat→Id→Option Id
 |[],_,_=>none
 |x::r,n,id=>match Id.is x id with|true=>some ((match id with|0::_=>0|_=>1)::n::π)|false=>DH π r (n+1) id
mutual
def Ih(ν:Id→Option Id):AV→AV
 |.osl id o n=>match ν id with|some id=>.osl id o n|none=>.undef
 |.ptr id o=>match ν id with|some id=>.ptr id o|none=>.undef
 |.eptr id i o=>match ν id with|some id=>.eptr id i o|none=>.undef
 |.yld id=>match ν id with|some id=>.yld id|none=>.undef
 |.mp id=>match ν id with|some id=>.mp id|none=>.undef
 |.iface t v=>.iface t (Ih ν v)
 |.agg cs=>.agg (HG ν cs)
 |.tup vs=>.tup (HG ν vs)
 |.fn f a b=>.fn f (HG ν a) (HG ν b)
 |v=>v
def HG(ν:Id→Option Id):List AV→List AV
 |[]=>[]
 |v::vs=>Ih ν v::HG ν vs
end
def GL(ν:Id→Option Id):Obj→Obj
 |.box cs=>.box (HG ν cs)
 |.arr sz es=>.arr sz (es.map (HG ν))
 |.map es=>.map (es.map fun p=>(p.1,Ih ν p.2))
 |.loop r=>.loop {r with env:=r.env.map fun p=>(p.1,Ih ν p.2)}
 |o=>o
def Cz(h:AB)(ν:Id→Option Id):List Id→AB
 |[]=>[]
 |id::r=>match h.get id,ν id with
  |some o,some id'=>(id',GL ν o)::Cz h ν r
  |_,_=>Cz h ν r
def fSt{α:Type}(st:St)(k:St→α):α:=vu st.env fun env=>Qv st.heap fun heap=>Hj st.base fun base=>k {env,heap,base,defs:=st.defs}
def EP(C:CG)(fr:Fr)(b:Nat)(st:St):St:=
 let e:=(C.live fr.f b).map fun t=>(t,st.env.get t)
 if fr.raw|| !st.defs.isEmpty then{st with env:=e}
 else
  let l:=Br st.heap 1000 (EK [] (e.flatMap fun p=>AE p.2)) 0
  let ν:=DH fr.π l 0
  {env:=e.map fun p=>(p.1,Ih ν p.2),heap:=Cz st.heap ν l,base:=l.length,defs:=[]}
def Kh:TypeDesc→Bool
 |.struct _=>true
 |.array ..=>true
 |_=>false
def HJ:TypeDesc→TK
 |.bool=>.bool
 |.int _=>.int
 |.string=>.str
 |_=>.other
def OZ(P:Program):Nat→List Field→Option (List TK)
 |_,[]=>some []
 |n,f::fs=>match(P.underlying f.type).map HJ,(P.info? f.type).map (·.size),OZ P (n+1) fs with
  |some .bool,some 1,some ks=>if f.offset=n∧f.name≠ "_" then some (.bool::ks)else none
  |some .int,some 1,some ks=>if f.offset=n∧f.name≠ "_" then some (.int::ks)else none
  |some .str,some 1,some ks=>if f.offset=n∧f.name≠ "_" then some (.str::ks)else none
  |_,_,_=>none
def CM(P:Program)(t:TypeId):TypeDesc→TK
 |.bool=>.bool
 |.int _=>.int
 |.string=>.str
 |.func ..=>.func
 |.pointer _=>.ptr
 |.interface _=>.iface
 |.slice _=>.slice
 |.map ..=>.map
 |.struct fs=>match OZ P 0 fs.toList with
  |some ks=>if P.stoodInHeld t=false∧P.eqGuardType P.depth t=false then .flat ks else .other
  |none=>.other
 |_=>.other
def K0(P:Program):TypeDesc→List (Nat×Nat×Bool)
 |.struct fs=>fs.toList.map fun f=>(f.offset,((P.info? f.type).map (·.size)).getD 0,((P.underlying f.type).map Kh).getD false)
 |_=>[]
def rK:TypeDesc→Bool
 |.struct _=>true
 |_=>false
def Jm(P:Program):TypeDesc→Bool
 |.struct fs=>fs.toList.all fun f=>(P.info? f.type).isSome&&(P.underlying f.type).isSome
 |_=>true
def RA:Value→Bool
 |.agg _=>true
 |_=>false
def Hi:TypeDesc→TypeId
 |.slice e=>e
 |.map _ e=>e
 |_=>0
def VO:TypeDesc→TypeId
 |.map k _=>k
 |_=>0
def Bf(P:Program)(mix:List TypeId)(t:TypeId):Option TI:=
 match P.info? t,P.underlying t with
 |some i,some d=>match i.zero with
  |some z=>match Nat.ble i.bytes 65536&&Jm P d&&Nat.beq z.cells.size i.size&&(RA z==Kh d)with
   |true=>some {kind:=CM P t d,size:=i.size,agg:=Kh d,str:=rK d,zero:=z.cells.toList.map C1,flds:=K0 P d,elem:=Hi d,key:=VO d,mix:=mix.any (Nat.beq t)}
   |false=>none
  |none=>none
 |_,_=>none
def Jv(C:CG)(f:FuncId)(id n base:Nat)(draw:Bool):E ((Option AV×St)×List Fp)→E (DX×St)
 |.ok ((o,st'),fps)=>
  match !draw||DI fps (C.pairs f id)with
  |true=>Hj (base+n) fun base=>match o with
   |none=>.ok (.normal,{st' with base})
   |some v=>.ok (.pan v,{st' with base})
  |false=>.err [15,id]
 |.err l=>.err (id::l)
def Db(C:CG)(K:AL)(fr:Fr)(id:Nat)(ops:Array Oper)(draw:Bool)(st:St):E (DX×St):=
 Jv C fr.f id ops.size st.base draw (Cn C K fr ops st.base (fun i=> !draw||C.alone fr.f id i) ops.toList 0 st)
def GI(id:Nat):E (DX×St)→E (DX×St)
 |.ok (.exit id',st')=>match Nat.beq id' id with
  |true=>.ok (.normal,st')
  |false=>.ok (.exit id',st')
 |r=>r
def C4(y:St→E (DX×St)):E (DX×St)→E (DX×St)
 |.ok (.normal,st')=>y st'
 |r=>r
def Jl(c:AV)(x y:E (DX×St)):E (DX×St):=
 match c with
 |.d (.bool t)=>match t with
  |true=>x
  |false=>y
 |_=>.err [14]
def Vd(st:St):Option Obj→E (DX×St)
 |some (.loop r)=>match r.state with
  |.busy=>.err [16]
  |_=>match r.pend with
   |none=>.ok (.normal,st)
   |some .ret=>.ok (.ret,st)
   |some (.exit k)=>.ok (.exit k,st)
   |some _=>.err [38]
 |_=>.err [17]
def Ie(ρ ρ2:List Nat)(id:Id)(st1:St):E (AZ×AB)→E (DX×St)
 |.ok (.ret _,h')=>GB (gc ρ (gc ρ2 h')) fun heap=>Vd {st1 with heap} (h'.get id)
 |.ok (.pan v,h')=>GB (gc ρ (gc ρ2 h')) fun heap=>.ok (.pan v,{st1 with heap})
 |.err l=>.err l
def Jf(K:AL)(prot:Option (List Nat))(ρ:List Nat)(id:Id)(h:AB):AV→E (AZ×AB)
 |.fn f first cap=>Ky (first++[.yld id]++cap) fun as=>K (.fn f) as h ρ true prot
 |_=>.err [18]
def Fc(K:AL)(fr:Fr)(g:Operand)(ps:Array Tmp)(asg body:Code)(st:St):E (DX×St):=
 match fr.rnd with
 |true=>.err [37]
 |false=>
 Hj st.base fun b=>
 GB (st.heap.put (0::b::fr.π) (.loop {state:=.ready,pend:=none,f:=fr.f,env:=st.env,params:=ps.toList,asg:=asg,body:=body,nt:=fr.nt})) fun h=>
 Hj (b+1) fun b1=>
 Hj (b+2) fun base=>
 Ie (b::fr.π) (b1::fr.π) (0::b::fr.π) {st with heap:=h,base,defs:=.mark (0::b::fr.π)::st.defs}
  (Jf K fr.prot (b1::fr.π) (0::b::fr.π) h (ev st.env.get g))
def A7(C:CG)(K:AL)(fr:Fr):Nat→Nat→Code→St→E (DX×St)
 |0,_,_,_=>.err [0]
 |n+1,b,c,st=>match c with
  |.skip=>.ok (.normal,st)
  |.label _=>.ok (.normal,st)
  |.seq x y=>C4 (A7 C K fr n b y) (A7 C K fr n b x st)
  |.cond c x y=>Jl (ev st.env.get c) (A7 C K fr n b x st) (A7 C K fr n b y st)
  |.block id x=>GI id (A7 C K fr n id x st)
  |.loop x=>fSt (EP C fr b st) fun st=>C4 (A7 C K fr n b (.loop x)) (A7 C K fr n b x st)
  |.exit id=>.ok (.exit id,st)
  |.ret=>.ok (.ret,st)
  |.region id ops draw=>Db C K fr id ops draw st
  |.rangeFunc g ps asg body=>Fc K fr g ps asg body st
  |_=>.err [19]
def CT(C:CG)(st:St):ResultVar→Option AV
 |.tmp t=>some (st.env.get t)
 |.cell a t=>(C.T t).bind fun i=>IY st.heap.get i (st.env.get a)
def MG{α β:Type}(f:α→Option β):List α→Option (List β)
 |[]=>some []
 |x::l=>match f x,MG f l with
  |some y,some m=>some (y::m)
  |_,_=>none
def H5(C:CG)(fn:Func)(st:St):Option AV:=
 match MG (CT C st) fn.results.toList with
 |some []=>some (.tup [])
 |some [v]=>some v
 |some vs=>some (.tup vs)
 |none=>none
def Cr(C:CG)(prot:Option (List Nat)):List Df→Option AV→AB→E (Option AV×AB)
 |[],p,h=>.ok (p,h)
 |.mark _::l,p,h=>Cr C prot l p h
 |.call f args::l,p,h=>match C.caught f,args with
  |some t,[.ptr id off]=>match p with
   |none=>Cr C prot l none h
   |some (.iface t' (.agg [.d (.int k n)]))=>match Nat.beq t' t&&JS prot [(id,.box [])]with
    |true=>match h.get id with
     |some (.box cs)=>match Bm cs off [.d (.int k n)]with
      |some cs'=>Cr C prot l none (h.put id (.box cs'))
      |none=>.err [20]
     |_=>.err [21]
    |false=>.err [22]
   |_=>.err [23]
  |_,_=>.err [24]
def Dr:Nat→List AV→BS
 |_,[]=>[]
 |n,v::vs=>(n,v)::Dr (n+1) vs
def DU(e:BS):List Nat→List AV→Option BS
 |[],[]=>some e
 |t::ts,v::vs=>DU ((t,v)::e) ts vs
 |_,_=>none
def Rf(C:CG)(f:FuncId)(fn:Func)(π:List Nat)(raw:Bool)(st:St):E (Option AV×AB)→E (AZ×AB)
 |.ok (none,h)=>match H5 C fn {st with heap:=h}with
  |some r=>fAV r fun r=>match raw with
   |true=>.ok (.ret r,h)
   |false=>match π with
    |[]=>match Vy h.get r with
     |some r'=>fAV r' fun r'=>.ok (.ret r',[])
     |none=>.err [26,f]
    |_=>.ok (.ret r,h)
  |none=>.err [27,f]
 |.ok (some v,h)=>.ok (.pan v,h)
 |.err l=>.err (f::l)
def p7(C:CG)(prot:Option (List Nat))(f:FuncId)(fn:Func)(π:List Nat)(raw:Bool):E (DX×St)→E (AZ×AB)
 |.ok (o,st)=>match o with
  |.ret=>Rf C f fn π raw st (Cr C prot st.defs none st.heap)
  |.normal=>Rf C f fn π raw st (Cr C prot st.defs none st.heap)
  |.pan v=>Rf C f fn π raw st (Cr C prot st.defs (some v) st.heap)
  |_=>.err [28,f]
 |.err l=>.err (f::l)
def N8(P:Program)(C:CG)(K:AL)(fuel:Nat)(f:FuncId)(args:List AV)(h:AB)(π:List Nat)(raw:Bool)(prot:Option (List Nat)):E (AZ×AB):=
 match P.funcs[f]? with
 |some fn=>match fn.body with
  |some c=>match Nat.ble args.length fn.ntmps with
   |true=>p7 C prot f fn π raw (A7 C K {f,π,raw,prot,nt:=fn.ntmps} fuel 0 c {env:=Dr 0 args,heap:=h,base:=0,defs:=[]})
   |false=>.err [39,f]
  |none=>.err [29,f]
 |none=>.err [30,f]
def Ik(id:Id)(h:AB)(r:Lp)(j:Option Code):E (AZ×AB):=
 .ok (.ret (.d (.bool j.isNone)),h.put id (.loop {r with state:=match j with|none=>.ready|some _=>.done,pend:=j}))
def Y4(id:Id)(o:DX)(h:AB):Option Obj→E (AZ×AB)
 |some (.loop r)=>match o with
  |.normal=>Ik id h r none
  |.ret=>Ik id h r (some .ret)
  |.exit k=>Ik id h r (some (.exit k))
  |.pan v=>.ok (.pan v,h)
 |_=>.err [32]
def N4(id:Id):E (DX×St)→E (AZ×AB)
 |.ok (o,st)=>match st.defs with
  |[]=>Y4 id o st.heap (st.heap.get id)
  |_=>.err [31]
 |.err l=>.err (99::l)
def L9(C:CG)(K:AL)(fuel:Nat)(id:Id)(r0:Lp)(π:List Nat)(prot:Option (List Nat))(st:St):Option Obj→E (AZ×AB)
 |some (.loop r)=>match r.state with
  |.ready=>GB (st.heap.put id (.loop {r with state:=.busy})) fun heap=>
   N4 id (A7 C K {f:=r0.f,π,raw:=true,prot,rnd:=true,nt:=r0.nt} fuel 0 r0.body {st with heap})
  |_=>.err [36]
 |_=>.err [33]
def HH(C:CG)(K:AL)(fuel:Nat)(id:Id)(r0:Lp)(π:List Nat)(prot:Option (List Nat)):E (DX×St)→E (AZ×AB)
 |.ok (.normal,st)=>match st.defs,JS prot [(id,.box [])]with
  |[],true=>L9 C K fuel id r0 π prot st (st.heap.get id)
  |_,_=>.err [40]
 |_=>.err [34]
def GM(C:CG)(K:AL)(fuel:Nat)(id:Id)(r:Lp)(args:List AV)(h:AB)(π:List Nat)(prot:Option (List Nat)):E (AZ×AB):=
 match DU r.env r.params args with
 |some e=>HH C K fuel id r π prot (A7 C K {f:=r.f,π,raw:=true,prot,rnd:=true,nt:=r.nt} fuel 0 r.asg {env:=e,heap:=h,base:=0,defs:=[]})
 |none=>.err [35]
def G5(P:Program)(C:CG)(m:Nat):Nat→AL
 |0=>fun _ _ _ _ _ _=>.err [25]
 |n+1=>fun t args h π raw prot=>match t with
  |.fn f=>match C.good f with
   |true=>N8 P C (G5 P C m n) m f args h π raw prot
   |false=>.err [41,f]
  |.round id r=>match raw with
   |true=>GM C (G5 P C m n) m id r args h π prot
   |false=>.err [42]
end Go.Abs
namespace Go.Abs
section
variable{α:Type}
@[simp] theorem Gx(n:Nat)(k:Nat→α):Hj n k=k n:=by cases n<;>rfl
@[simp] theorem ACQ(b:Bool)(k:Bool→α):zW b k=k b:=by cases b<;>rfl
@[simp] theorem AC7(n:Int)(k:Int→α):AAP n k=k n:=by cases n<;>simp[AAP]
@[simp] theorem ACU(x:IntKind)(k:IntKind→α):zY x k=k x:=by cases x<;>rfl
@[simp] theorem ACV(l:List Nat)(k:List Nat→α):NU l k=k l:=by
  induction l generalizing k with
  |nil=>rfl
  |cons n l ih=>simp[NU,ih]
@[simp] theorem AC5(x:AW)(k:AW→α):iK x k=k x:=by cases x<;>simp[iK]
@[simp] theorem ACS(l:List AW)(k:List AW→α):XG l k=k l:=by
  induction l generalizing k with
  |nil=>rfl
  |cons n l ih=>simp[XG,ih]
@[simp] theorem ABr(l:List (List AW))(k:List (List AW)→α):OY l k=k l:=by
  induction l generalizing k with
  |nil=>rfl
  |cons n l ih=>simp[OY,ih]
@[simp] theorem ACR(x:AW)(k:AW→α):qD x k=k x:=by cases x<;>simp[qD,iK]
@[simp] theorem AC3(x:AV)(k:AV→α):qC x k=k x:=by cases x<;>simp[qC]
@[simp] theorem ACO(l:List AV)(k:List AV→α):Qt l k=k l:=by
  induction l generalizing k with
  |nil=>rfl
  |cons n l ih=>simp[Qt,ih]
@[simp] theorem AC4(x:AV)(k:AV→α):Z9 x k=k x:=by
  unfold Z9;split<;>simp
@[simp] theorem A6(l:List AV)(k:List AV→α):Ky l k=k l:=by
  induction l generalizing k with
  |nil=>rfl
  |cons n l ih=>simp[Ky,ih]
@[simp] theorem JW(x:AV)(k:AV→α):fAV x k=k x:=by
  unfold fAV;split<;>simp
@[simp] theorem ACP(l:List (List AV))(k:List (List AV)→α):er l k=k l:=by
  induction l generalizing k with
  |nil=>rfl
  |cons n l ih=>simp[er,ih]
@[simp] theorem zX(l:List (AW×AV))(k:List (AW×AV)→α):NR l k=k l:=by
  induction l generalizing k with
  |nil=>rfl
  |cons n l ih=>obtain⟨x,v⟩:=n;simp[NR,ih]
@[simp] theorem AC8(x:Obj)(k:Obj→α):AAQ x k=k x:=by cases x<;>simp[AAQ]
@[simp] theorem BT(l:AB)(k:AB→α):Qv l k=k l:=by
  induction l generalizing k with
  |nil=>rfl
  |cons n l ih=>obtain⟨x,v⟩:=n;simp[Qv,ih]
@[simp] theorem Aa(l:AB)(k:AB→α):GB l k=k l:=by
  induction l generalizing k with
  |nil=>rfl
  |cons n l ih=>obtain⟨x,v⟩:=n;simp[GB,ih]
@[simp] theorem AC6(l:BS)(k:BS→α):vu l k=k l:=by
  induction l generalizing k with
  |nil=>rfl
  |cons n l ih=>obtain⟨x,v⟩:=n;simp[vu,ih]
@[simp] theorem Av(l:BS)(k:BS→α):TS l k=k l:=by cases l<;>rfl
@[simp] theorem KD(st:St)(k:St→α):fSt st k=k st:=by simp[fSt]
@[simp] theorem Kz(h δ:AB)(k:AB→α):XH h δ k=k (h.puts δ):=by
  cases δ<;>simp[XH,AB.puts]
end
theorem Id.is_iff(a b:Id):Id.is a b=true↔a=b:=by
 induction a generalizing b with
 |nil=>cases b<;>simp[Id.is]
 |cons n l ih=>
  cases b with
  |nil=>simp[Id.is]
  |cons m k=>
   simp only[Id.is];split
   .rename_i h;have:n=m:=Nat.eq_of_beq_eq_true h;simp[ih,this]
   .rename_i h;have:n≠m:=fun h'=>by subst h';simp at h
    simp[this]
theorem Id.is_false_iff(a b:Id):Id.is a b=false↔a≠b:=by
 rw[←Bool.not_eq_true,Id.is_iff]
@[simp] theorem Id.is_self(a:Id):Id.is a a=true:=(Id.is_iff a a).2 rfl
theorem Id.under_iff(ρ a:Id):Id.under ρ a=true↔ρ<:+a:=by
 induction a with
 |nil=>simp[Id.under,Id.is_iff]
 |cons n l ih=>
  simp only[Id.under];split
  .rename_i h;rw[Id.is_iff]at h;subst h;simp
  .rename_i h;rw[Id.is_false_iff]at h;rw[ih,List.suffix_cons_iff];simp[h]
@[simp] theorem AB.get_nil(id:Id):AB.get [] id=none:=rfl
theorem AB.get_cons(k:Id)(o:Obj)(h:AB)(id:Id):AB.get ((k,o)::h) id=if k=id then some o else h.get id:=by
 simp only[AB.get];split
 .rename_i h';rw[Id.is_iff]at h';simp[h']
 .rename_i h';rw[Id.is_false_iff]at h';simp[h']
theorem AB.get_put(h:AB)(id:Id)(o:Obj)(id':Id):(h.put id o).get id'=if id=id' then some o else h.get id':=by
 induction h with
 |nil=>simp[AB.put,AB.get_cons]
 |cons p h ih=>
  obtain⟨k,x⟩:=p;simp only[AB.put];split
  .rename_i h';rw[Id.is_iff]at h';subst h';simp[AB.get_cons];split<;>simp_all
  .rename_i h';rw[Id.is_false_iff]at h';simp only[AB.get_cons,ih];split
   .rename_i h1;subst h1;simp[Ne.symm h']
   .rfl
theorem AB.get_append(h h':AB)(id:Id):AB.get (h++h') id=(h.get id).or (h'.get id):=by
 induction h with
 |nil=>simp
 |cons p h ih=>
  obtain⟨k,x⟩:=p;simp only[List.cons_append,AB.get_cons,ih];split<;>simp
theorem BS.get_cons(k:Nat)(v:AV)(e:BS)(t:Nat):BS.get ((k,v)::e) t=if k=t then v else e.get t:=by
 simp only[BS.get];split
 .rename_i h;have:=Nat.eq_of_beq_eq_true h;simp[this]
 .rename_i h;have:k≠t:=fun h'=>by subst h';simp at h
  simp[this]
theorem AB.puts_nil(h:AB):h.puts []=h:=rfl
theorem AB.puts_cons(h:AB)(p:Id×Obj)(δ:AB):h.puts (p::δ)=(h.put p.1 p.2).puts δ:=rfl
theorem AB.puts_append(h δ δ':AB):h.puts (δ++δ')=(h.puts δ).puts δ':=by simp[AB.puts,List.foldl_append]
end Go.Abs
namespace Go.Abs
variable{A:Nat→Prop}
structure Ps where
 b:Nat
 sz:Nat
 n:Nat
abbrev Ag:=Id→Option Ps
inductive DR(w:World)(M:Nat→Prop):AW→Value→Prop
 |int (k n):DR w M (.int k n) (.int k n)
 |bool (b):DR w M (.bool b) (.bool b)
 |str (s):DR w M (.str s) (.string s)
 |nilp:DR w M .nilp (.pointer none)
 |nilf:DR w M .nilf .nilFunc
 |nili:DR w M .nili .nilIface
 |nilm:DR w M .nilm (.map none)
 |lst0 (a cap):DR w M (.lst []) (.slice a 0 cap)
 |lst (es:List (List AW)) (b off cap sz:Nat) (c:Array Value) (elem:TypeId) (fr:Nat×Nat):
  w.heap[b]? =some (.cells c elem fr)→ ¬M b→(∀e∈es,e.length=sz)→off+es.length*sz≤c.size→
  (∀i x v,es.flatten[i]? =some x→c[off+i]? =some v→DR w M x v)→es.length≤cap→DR w M (.lst es) (.slice (some ⟨b,off,none⟩) es.length cap)
inductive VR(β:Ag)(w:World)(M:Nat→Prop):AV→Value→Prop
 |d {x v}:DR w M x v→VR β w M (.d x) v
 |nils:VR β w M .nils (.slice none 0 0)
 |emp (a):VR β w M .emp (.slice a 0 0)
 |osl (id off len k a cap):β id=some k→off*k.sz+cap*k.sz=k.n→len≤cap→(a=some ⟨k.b,off*k.sz,none⟩∨cap=0)→
  VR β w M (.osl id off len) (.slice a len cap)
 |ptr (id off k):β id=some k→VR β w M (.ptr id off) (.pointer (some ⟨k.b,off,none⟩))
 |eptr (id i off k):β id=some k→VR β w M (.eptr id i off) (.pointer (some ⟨k.b,i*k.sz+off,none⟩))
 |iptr (cs b off c elem fr):w.heap[b]? =some (.cells c elem fr)→ ¬M b→off+cs.length≤c.size→
  (∀i x v,cs[i]? =some x→c[off+i]? =some v→DR w M x v)→VR β w M (.iptr cs) (.pointer (some ⟨b,off,none⟩))
 |fn (f) (a b:List AV) (a' b':Array Value):a.length=a'.size→b.length=b'.size→(∀(i:Nat) (x:AV) (v:Value),a[i]? =some x→a'[i]? =some v→VR β w M x v)→
  (∀(i:Nat) (x:AV) (v:Value),b[i]? =some x→b'[i]? =some v→VR β w M x v)→VR β w M (.fn f a b) (.func (.func f) a' b')
 |yld (id k):β id=some k→VR β w M (.yld id) (.func (.yield k.b) #[] #[])
 |mp (id k):β id=some k→VR β w M (.mp id) (.map (some k.b))
 |iface (t v u):VR β w M v u→VR β w M (.iface t v) (.iface t u)
 |agg (cs:List AV) (c:Array Value):cs.length=c.size→(∀(i:Nat) (x:AV) (v:Value),cs[i]? =some x→c[i]? =some v→VR β w M x v)→VR β w M (.agg cs) (.agg c)
 |tup (cs:List AV) (c:Array Value):cs.length=c.size→(∀(i:Nat) (x:AV) (v:Value),cs[i]? =some x→c[i]? =some v→VR β w M x v)→VR β w M (.tup cs) (.tuple c)
 |undef (v):VR β w M .undef v
def FQ(β:Ag)(w:World)(M:Nat→Prop)(cs:List AV)(c:Array Value):Prop:=
 cs.length=c.size∧ ∀(i:Nat) (x:AV) (v:Value),cs[i]? =some x→c[i]? =some v→VR β w M x v
def Obj.mut:Obj→Bool
 |.fro ..=>false
 |_=>true
def MS(A:Nat→Prop)(β:Ag)(h:AB)(b:Nat):Prop:=A b∨ ∃id o k,h.get id=some o∧o.mut=true∧β id=some k∧k.b=b
def Iv(β:Ag)(w:World)(M:Nat→Prop)(e:Nat→AV)(f:Nat→Value):Prop:= ∀t,VR β w M (e t) (f t)
def Kg(β:Ag)(w:World)(M:Nat→Prop)(k:Ps):Obj→Prop
 |.box cs=> ∃c elem,w.heap[k.b]? =some (.cells c elem (0,0))∧FQ β w M cs c
 |.darr sz es=> ∃c elem,w.heap[k.b]? =some (.cells c elem (0,0))∧sz=k.sz∧0<sz∧c.size=k.n∧(∀e∈es,e.length=sz)∧es.length*sz≤c.size∧
  ∀(i:Nat) (x:AW) (v:Value),es.flatten[i]? =some x→c[i]? =some v→DR w M x v
 |.fro sz es=>es=[]∨(¬M k.b∧ ∃c elem fr,w.heap[k.b]? =some (.cells c elem fr)∧sz=k.sz∧0<sz∧c.size=k.n∧(∀e∈es,e.length=sz)∧es.length*sz≤c.size∧
  ∀(i:Nat) (x:AW) (v:Value),es.flatten[i]? =some x→c[i]? =some v→DR w M x v)
 |.arr sz es=> ∃c elem,w.heap[k.b]? =some (.cells c elem (0,0))∧sz=k.sz∧0<sz∧c.size=k.n∧(∀e∈es,e.length=sz)∧es.length*sz≤c.size∧
  ∀(i:Nat) (x:AV) (v:Value),es.flatten[i]? =some x→c[i]? =some v→VR β w M x v
 |.map es=> ∃entries clock,w.heap[k.b]? =some (.map entries clock)∧es.length=entries.size∧
  ∀(i:Nat) p e,es[i]? =some p→entries[i]? =some e→DR w M p.1 e.key∧VR β w M p.2 e.val
 |.loop r=> ∃l:Loop,w.heap[k.b]? =some (.loop l)∧l.state=r.state∧l.pending=r.pend∧l.fn=r.f∧l.params.toList=r.params∧l.assign=r.asg∧l.body=r.body∧l.tmps.size=r.nt∧
  Iv β w M r.env.get fun t=>l.tmps.getD t Go.undef
structure HR(A:Nat→Prop)(β:Ag)(w:World)(h:AB):Prop where
 obj: ∀id o,h.get id=some o→ ∃k,β id=some k∧Kg β w (MS A β h) k o
 inj: ∀id id' o o' k k',h.get id=some o→h.get id'=some o'→o.mut=true→o'.mut=true→β id=some k→β id'=some k'→k.b=k'.b→id=id'
 bnd: ∀id k,β id=some k→k.b<w.heap.size
 out: ∀id o k,h.get id=some o→o.mut=true→β id=some k→ ¬A k.b
 abnd: ∀b,A b→b<w.heap.size
structure DY(A M:Nat→Prop)(w:World)(M':Nat→Prop)(w':World):Prop where
 keep: ∀b,b<w.heap.size→ ¬M b∨A b→w'.heap[b]? =w.heap[b]?
 size:w.heap.size≤w'.heap.size
 sub: ∀b,M' b→M b∨w.heap.size≤b
 io:w'.os=w.os∧w'.output=w.output:=by exact⟨rfl,rfl⟩
theorem DY.refl(M:Nat→Prop)(w:World):DY A M w M w:=⟨fun _ _ _=>rfl,Nat.le_refl _,fun _ h=>.inl h,rfl,rfl⟩
theorem DY.trans{M M' M'':Nat→Prop}{w w' w'':World}(h:DY A M w M' w')(h':DY A M' w' M'' w''):DY A M w M'' w'' where
 keep b hb hm:=by
  rw[h'.keep b (Nat.lt_of_lt_of_le hb h.size) (hm.imp (fun hm hm'=>(h.sub b hm').elim hm (fun h=>by omega)) (fun h=>h)),h.keep b hb hm]
 size:=Nat.le_trans h.size h'.size
 sub b hb:=by
  rcases h'.sub b hb with h1|h1
  .exact h.sub b h1
  .exact .inr (Nat.le_trans h.size h1)
 io:=⟨h'.io.1.trans h.io.1,h'.io.2.trans h.io.2⟩
theorem DY.sub'{M M':Nat→Prop}{w w':World}(h:DY A M w M' w'){b:Nat}(hb:b<w.heap.size)(hm: ¬M b): ¬M' b:=
 fun hm'=>(h.sub b hm').elim hm (fun h=>by omega)
def Le(β β':Ag):Prop:= ∀id k,β id=some k→β' id=some k
theorem Le.refl(β:Ag):Le β β:=fun _ _ h=>h
theorem Le.trans{β β' β'':Ag}(h:Le β β')(h':Le β' β''):Le β β'':=fun id k x=>h' id k (h id k x)
theorem AI{w:World}{b:Nat}{o:Go.Obj}(h:w.heap[b]? =some o):b<w.heap.size:=(Array.getElem?_eq_some_iff.1 h).1
theorem DR.mono{w w':World}{M M':Nat→Prop}(hp:DY A M w M' w'){x:AW}{v:Value}(h:DR w M x v):DR w' M' x v:=by
 induction h with
 |int k n=>exact .int k n
 |bool b=>exact .bool b
 |str s=>exact .str s
 |nilp=>exact .nilp
 |nilf=>exact .nilf
 |nili=>exact .nili
 |nilm=>exact .nilm
 |lst0 a cap=>exact .lst0 a cap
 |lst es b off cap sz c elem fr hb hm he hl _ hcap ih=>
  exact .lst es b off cap sz c elem fr (by rw[hp.keep b (AI hb) (.inl hm)];exact hb) (hp.sub' (AI hb) hm) he hl ih hcap
theorem VR.mono{β β':Ag}{w w':World}{M M':Nat→Prop}(hβ:Le β β')(hp:DY A M w M' w'){x:AV}{v:Value}(h:VR β w M x v):VR β' w' M' x v:=by
 induction h with
 |d h=>exact .d (h.mono hp)
 |nils=>exact .nils
 |emp a=>exact .emp a
 |osl id off len k a cap hk hn hl ha=>exact .osl id off len k a cap (hβ _ _ hk) hn hl ha
 |ptr id off k hk=>exact .ptr id off k (hβ _ _ hk)
 |eptr id i off k hk=>exact .eptr id i off k (hβ _ _ hk)
 |iptr cs b off c elem fr hb hm hl hd=>
  exact .iptr cs b off c elem fr (by rw[hp.keep b (AI hb) (.inl hm)];exact hb) (hp.sub' (AI hb) hm) hl fun i x v h1 h2=>(hd i x v h1 h2).mono hp
 |fn f a b a' b' h1 h2 _ _ ih1 ih2=>exact .fn f a b a' b' h1 h2 ih1 ih2
 |yld id k hk=>exact .yld id k (hβ _ _ hk)
 |mp id k hk=>exact .mp id k (hβ _ _ hk)
 |iface t v u _ ih=>exact .iface t v u ih
 |agg cs c h1 _ ih=>exact .agg cs c h1 ih
 |tup cs c h1 _ ih=>exact .tup cs c h1 ih
 |undef v=>exact .undef v
theorem FQ.mono{β β':Ag}{w w':World}{M M':Nat→Prop}(hβ:Le β β')(hp:DY A M w M' w'){x:List AV}{v:Array Value}(h:FQ β w M x v):FQ β' w' M' x v:=
 ⟨h.1,fun i x v h1 h2=>(h.2 i x v h1 h2).mono hβ hp⟩
theorem Iv.mono{β β':Ag}{w w':World}{M M':Nat→Prop}(hβ:Le β β')(hp:DY A M w M' w'){e:Nat→AV}{f:Nat→Value}(h:Iv β w M e f):Iv β' w' M' e f:=
 fun t=>(h t).mono hβ hp
theorem Kg.mono{β β':Ag}{w w':World}{M M':Nat→Prop}(hβ:Le β β')(hp:DY A M w M' w'){k:Ps}{o:Obj}(h:Kg β w M k o)(hlt:k.b<w.heap.size)
 (hk:w'.heap[k.b]? =w.heap[k.b]?):Kg β' w' M' k o:=by
 cases o with
 |box cs=>obtain⟨c,elem,h1,h2⟩:=h;exact⟨c,elem,hk▸h1,h2.mono hβ hp⟩
 |darr sz es=>obtain⟨c,elem,h1,h2,h3,h4,h5,h6,h7⟩:=h;exact⟨c,elem,hk▸h1,h2,h3,h4,h5,h6,fun i x v a b=>(h7 i x v a b).mono hp⟩
 |fro sz es=>
  rcases h with h|⟨hm,c,elem,fr,h1,h2,h3,h4,h5,h6,h7⟩
  .exact .inl h
  .exact .inr ⟨hp.sub' hlt hm,c,elem,fr,hk▸h1,h2,h3,h4,h5,h6,fun i x v a b=>(h7 i x v a b).mono hp⟩
 |arr sz es=>obtain⟨c,elem,h1,h2,h3,h4,h5,h6,h7⟩:=h;exact⟨c,elem,hk▸h1,h2,h3,h4,h5,h6,fun i x v a b=>(h7 i x v a b).mono hβ hp⟩
 |map es=>obtain⟨en,cl,h1,h2,h3⟩:=h;exact⟨en,cl,hk▸h1,h2,fun i p e a b=>⟨(h3 i p e a b).1.mono hp,(h3 i p e a b).2.mono hβ hp⟩⟩
 |loop r=>obtain⟨l,h1,h2,h3,h4,h5,h6,h7,h9,h8⟩:=h;exact⟨l,hk▸h1,h2,h3,h4,h5,h6,h7,h9,h8.mono hβ hp⟩
theorem HR.step{β β':Ag}{w w':World}{h h':AB}(H:HR A β w h)(hβ:Le β β')(hp:DY A (MS A β h) w (MS A β' h') w')
 (hobj: ∀id o,h'.get id=some o→(h.get id=some o∧ ∀k,β id=some k→w'.heap[k.b]? =w.heap[k.b]?)∨ ∃k,β' id=some k∧Kg β' w' (MS A β' h') k o)
 (hinj: ∀id id' o o' k k',h'.get id=some o→h'.get id'=some o'→o.mut=true→o'.mut=true→β' id=some k→β' id'=some k'→k.b=k'.b→id=id')
 (hbnd: ∀id k,β' id=some k→k.b<w'.heap.size) (hout: ∀id o k,h'.get id=some o→o.mut=true→β' id=some k→ ¬A k.b):HR A β' w' h' where
 obj id o ho:=by
  rcases hobj id o ho with⟨h1,h2⟩|h1
  .obtain⟨k,hk,hr⟩:=H.obj id o h1;exact⟨k,hβ _ _ hk,hr.mono hβ hp (H.bnd id k hk) (h2 k hk)⟩
  .exact h1
 inj:=hinj
 bnd:=hbnd
 out:=hout
 abnd b hb:=Nat.lt_of_lt_of_le (H.abnd b hb) hp.size
def Ag.put(β:Ag)(id:Id)(k:Ps):Ag:=fun x=>if x=id then some k else β x
theorem Ml{β:Ag}{id:Id}{k:Ps}(h:β id=none):Le β (β.put id k):=fun x k' hx=>by
 unfold Ag.put;split
 .rename_i e;subst e;rw[h]at hx;cases hx
 .exact hx
@[simp] theorem FB(β:Ag)(id:Id)(k:Ps):β.put id k id=some k:=by simp[Ag.put]
theorem BW(β:Ag){id x:Id}(k:Ps)(h:x≠id):β.put id k x=β x:=by simp[Ag.put,h]
def World.add(w:World)(x:Go.Obj):World:={w with heap:=w.heap.push x}
theorem J4(w:World)(x:Go.Obj):(World.add w x).heap[w.heap.size]? =some x:=by simp[World.add]
theorem Hh(w:World)(x:Go.Obj){b:Nat}(h:b<w.heap.size):(World.add w x).heap[b]? =w.heap[b]? :=by
 simp[World.add,Array.getElem?_push,Nat.ne_of_lt h]
theorem IB(w:World)(x:Go.Obj):(World.add w x).heap.size=w.heap.size+1:=by simp[World.add]
theorem oQ{β:Ag}{w:World}{h:AB}(H:HR A β w h){b:Nat}(hb:MS A β h b):b<w.heap.size:=by
 rcases hb with hb|⟨id,o,k,_,_,hk,rfl⟩
 .exact H.abnd b hb
 .exact H.bnd id k hk
theorem Rp{β:Ag}{w:World}{h:AB}(H:HR A β w h){id:Id}(x:Go.Obj){o:Obj}{k:Ps}(hk:k.b=w.heap.size):
 DY A (MS A β h) w (MS A (β.put id k) (h.put id o)) (World.add w x) where
 keep b hb _:=Hh w x hb
 size:=by rw[IB];omega
 sub b hb:=by
  rcases hb with hb|⟨id',o',k',ho,hm,hk',rfl⟩
  .exact .inl (.inl hb)
  by_cases e:id'=id
  .subst e;simp at hk';subst hk';exact .inr (by omega)
  .rw[BW β k e]at hk';rw[AB.get_put,if_neg (Ne.symm e)]at ho;exact .inl (.inr ⟨id',o',k',ho,hm,hk',rfl⟩)
theorem HR.add{β:Ag}{w:World}{h:AB}(H:HR A β w h){id:Id}(hid:β id=none){x:Go.Obj}{o:Obj}{k:Ps}(hk:k.b=w.heap.size)
 (ho:Kg (β.put id k) (World.add w x) (MS A (β.put id k) (h.put id o)) k o):HR A (β.put id k) (World.add w x) (h.put id o):=by
 refine H.step (Ml hid) (Rp H x hk) ?_ ?_ ?_ ?_
 .intro id' o' hg;rw[AB.get_put]at hg;split at hg
  .rename_i e;subst e;cases hg;exact .inr ⟨k,by simp,ho⟩
  .exact .inl ⟨hg,fun k' hk'=>Hh w x (H.bnd _ _ hk')⟩
 .intro a b oa ob ka kb ha hb hma hmb hka hkb e;rw[AB.get_put]at ha hb;by_cases ea:a=id<;>by_cases eb:b=id
  .rw[ea,eb]
  .subst ea;simp at hka;subst hka;rw[BW β _ eb]at hkb;have:=H.bnd _ _ hkb;omega
  .subst eb;simp at hkb;subst hkb;rw[BW β _ ea]at hka;have:=H.bnd _ _ hka;omega
  .rw[BW β _ ea]at hka;rw[BW β _ eb]at hkb;rw[if_neg (Ne.symm ea)]at ha;rw[if_neg (Ne.symm eb)]at hb;exact H.inj a b oa ob ka kb ha hb hma hmb hka hkb e
 .intro a ka hka;rw[IB];by_cases ea:a=id
  .subst ea;simp at hka;subst hka;omega
  .rw[BW β _ ea]at hka;have:=H.bnd _ _ hka;omega
 .intro a oa ka ha hma hka hA;rw[AB.get_put]at ha;by_cases ea:a=id
  .subst ea;simp at hka;subst hka;have:=H.abnd _ hA;omega
  .rw[BW β _ ea]at hka;rw[if_neg (Ne.symm ea)]at ha;exact H.out a oa ka ha hma hka hA
def World.upd(w:World)(b:Nat)(x:Go.Obj):World:={w with heap:=w.heap.setIfInBounds b x}
theorem G3{w:World}{b:Nat}(x:Go.Obj)(h:b<w.heap.size):(World.upd w b x).heap[b]? =some x:=by simp[World.upd,h]
theorem ED{w:World}{b b':Nat}(x:Go.Obj)(h:b'≠b):(World.upd w b x).heap[b']? =w.heap[b']? :=by
 simp[World.upd,Array.getElem?_setIfInBounds,Ne.symm h]
theorem EH(w:World)(b:Nat)(x:Go.Obj):(World.upd w b x).heap.size=w.heap.size:=by simp[World.upd]
theorem Sw{β:Ag}{h:AB}{id:Id}{o o':Obj}(ho:h.get id=some o)(hm:o.mut=true){b:Nat}(hb:MS A β (h.put id o') b):MS A β h b:=by
 rcases hb with hb|⟨id',o1,k,h1,h2,h3,rfl⟩
 .exact .inl hb
 rw[AB.get_put]at h1;split at h1
 .rename_i e;subst e;exact .inr ⟨id,o,k,ho,hm,h3,rfl⟩
 .exact .inr ⟨id',o1,k,h1,h2,h3,rfl⟩
theorem GJ{β:Ag}{w:World}{h:AB}(H:HR A β w h){id:Id}{k:Ps}{o o':Obj}(ho:h.get id=some o)(hm:o.mut=true)(hk:β id=some k)(x:Go.Obj):
 DY A (MS A β h) w (MS A β (h.put id o')) (World.upd w k.b x) where
 keep b _ hb:=ED x fun e=>hb.elim (fun hb=>hb (.inr ⟨id,o,k,ho,hm,hk,e.symm⟩)) (fun hb=>H.out id o k ho hm hk (e▸hb))
 size:=by rw[EH];omega
 sub b hb:=.inl (Sw ho hm hb)
theorem HR.upd{β:Ag}{w:World}{h:AB}(H:HR A β w h){id:Id}{k:Ps}{o o':Obj}(ho:h.get id=some o)(hm:o.mut=true)(hk:β id=some k){x:Go.Obj}
 (hr:Kg β (World.upd w k.b x) (MS A β (h.put id o')) k o')
 (hfro: ∀id' sz es k',h.get id'=some (.fro sz es)→β id'=some k'→k'.b=k.b→es=[]):HR A β (World.upd w k.b x) (h.put id o'):=by
 refine H.step (.refl β) (GJ H ho hm hk x) ?_ ?_ ?_ ?_
 .intro id' o1 hg;rw[AB.get_put]at hg;split at hg
  .rename_i e;subst e;cases hg;exact .inr ⟨k,hk,hr⟩
  .rename_i e;obtain⟨k',hk',hr'⟩:=H.obj id' o1 hg;by_cases eb:k'.b=k.b
   .cases hm':o1.mut with
    |true=>exact absurd (H.inj id id' o o1 k k' ho hg hm hm' hk hk' eb.symm) e
    |false=>
     cases o1 with
     |fro sz es=>
      have:=hfro id' sz es k' hg hk' eb;exact .inr ⟨k',hk',.inl this⟩
     |_=>simp[Obj.mut]at hm'
   .exact .inl ⟨hg,fun k2 hk2=>by rw[hk']at hk2;cases hk2;exact ED x eb⟩
 .intro a b oa ob ka kb ha hb hma hmb hka hkb e;rw[AB.get_put]at ha hb;have get': ∀{y:Id} {oy:Obj},(if id=y then some o' else h.get y)=some oy→oy.mut=true→ ∃oz,h.get y=some oz∧oz.mut=true:=by
   intro y oy hy hmy;split at hy
   .rename_i e;subst e;exact⟨o,ho,hm⟩
   .exact⟨oy,hy,hmy⟩
  obtain⟨oa',h1,h2⟩:=get' ha hma;obtain⟨ob',h3,h4⟩:=get' hb hmb;exact H.inj a b oa' ob' ka kb h1 h3 h2 h4 hka hkb e
 .intro a ka hka;rw[EH];exact H.bnd a ka hka
 .intro a oa ka ha hma hka;rw[AB.get_put]at ha;split at ha
  .rename_i e;subst e;exact H.out _ _ _ ho hm hka
  .exact H.out a oa ka ha hma hka
theorem HR.fro{β:Ag}{w:World}{h:AB}(H:HR A β w h){id id':Id}{k k':Ps}{o:Obj}(ho:h.get id=some o)(hm:o.mut=true)(hk:β id=some k){sz:Nat}{es:List (List AW)}
 (hf:h.get id'=some (.fro sz es)) (hk':β id'=some k') (e:k'.b=k.b):es=[]:=by
 obtain⟨k2,hk2,hr⟩:=H.obj id' _ hf;rw[hk']at hk2;cases hk2;rcases hr with h1|⟨h1,_⟩
 .exact h1
 .exact absurd (.inr ⟨id,o,k,ho,hm,hk,e.symm⟩) h1
theorem HR.upd'{β:Ag}{w:World}{h:AB}(H:HR A β w h){id:Id}{k:Ps}{o o':Obj}(ho:h.get id=some o)(hm:o.mut=true)(hk:β id=some k){x:Go.Obj}
 (hr:Kg β (World.upd w k.b x) (MS A β (h.put id o')) k o'):HR A β (World.upd w k.b x) (h.put id o'):=
 H.upd ho hm hk hr fun _ _ _ _ h1 h2 h3=>H.fro ho hm hk h1 h2 h3
theorem s6{β:Ag}{w:World}{h:AB}{id:Id}{o o':Obj}(ho:h.get id=some o)(hm:o.mut=true):
 DY A (MS A β h) w (MS A β (h.put id o')) w:=⟨fun _ _ _=>rfl,Nat.le_refl _,fun _ hb=>.inl (Sw ho hm hb),rfl,rfl⟩
theorem HR.kill{β:Ag}{w:World}{h:AB}(H:HR A β w h){id:Id}{o:Obj}(ho:h.get id=some o)(hm:o.mut=true):HR A β w (h.put id (.fro 0 [])):=by
 obtain⟨k,hk,_⟩:=H.obj id _ ho;refine H.step (.refl β) (s6 ho hm) ?_ ?_ H.bnd ?_
 .intro id' o1 hg;rw[AB.get_put]at hg;split at hg
  .rename_i e;subst e;cases hg;exact .inr ⟨k,hk,.inl rfl⟩
  .exact .inl ⟨hg,fun _ _=>rfl⟩
 .intro a b oa ob ka kb ha hb hma hmb hka hkb e;rw[AB.get_put]at ha hb;have get': ∀{y:Id} {oy:Obj},(if id=y then some (Obj.fro 0 [])else h.get y)=some oy→oy.mut=true→ ∃oz,h.get y=some oz∧oz.mut=true:=by
   intro y oy hy hmy;split at hy
   .cases hy;simp[Obj.mut]at hmy
   .exact⟨oy,hy,hmy⟩
  obtain⟨oa',h1,h2⟩:=get' ha hma;obtain⟨ob',h3,h4⟩:=get' hb hmb;exact H.inj a b oa' ob' ka kb h1 h3 h2 h4 hka hkb e
 .intro a oa ka ha hma hka;rw[AB.get_put]at ha;split at ha
  .cases ha;cases hma
  .exact H.out a oa ka ha hma hka
end Go.Abs
