/-
  Parts: EngC EngF EngR.
-/
import Derived.CallsIn
import Derived.DefersIn
import Derived.RangeFuncLeaves
set_option linter.all false
set_option linter.unusedSimpArgs false
set_option linter.unusedVariables false
section
namespace Go.Abs
inductive Dat where
  | int (k : IntKind) (n : Int)
  | bool (b : Bool)
  | str (s : ByteArray)
  | lst (es : List (List Dat))
  | nilp | nilf | nili | nilm
abbrev Id := List Nat
def Id.is : Id → Id → Bool
  | [], [] => true
  | n :: l, m :: k => match Nat.beq n m with
    | true => Id.is l k
    | false => false
  | _, _ => false
def Id.under (ρ : Id) : Id → Bool
  | [] => Id.is ρ []
  | n :: l => match Id.is ρ (n :: l) with
    | true => true
    | false => Id.under ρ l
inductive AV where
  | d (x : Dat)
  | nils
  | emp
  | osl (id : Id) (off len : Nat)
  | ptr (id : Id) (off : Nat)
  | eptr (id : Id) (i off : Nat)
  | iptr (cs : List Dat)
  | fn (f : FuncId) (first cap : List AV)
  | yld (id : Id)
  | mp (id : Id)
  | iface (t : TypeId) (v : AV)
  | agg (cs : List AV)
  | tup (vs : List AV)
  | undef
abbrev Env := List (Nat × AV)
def Env.get : Env → Nat → AV
  | [], _ => .undef
  | (k, v) :: e, t => match Nat.beq k t with
    | true => v
    | false => Env.get e t
structure Lp where
  state : LoopState
  pend : Option Code
  f : FuncId
  env : Env
  params : List Nat
  asg : Code
  body : Code
  nt : Nat
inductive Obj where
  | box (cs : List AV)
  | darr (sz : Nat) (es : List (List Dat))
  | fro (sz : Nat) (es : List (List Dat))
  | arr (sz : Nat) (es : List (List AV))
  | map (es : List (Dat × AV))
  | loop (r : Lp)
abbrev Heap := List (Id × Obj)
def Heap.get : Heap → Id → Option Obj
  | [], _ => none
  | (k, o) :: h, id => match Id.is k id with
    | true => some o
    | false => Heap.get h id
mutual
def Dat.same : Dat → Dat → Bool
  | .int k n, .int k' m => decide (k = k') && decide (n = m)
  | .bool a, .bool b => match a, b with
    | true, true => true
    | false, false => true
    | _, _ => false
  | .str a, .str b => decide (a.data.toList = b.data.toList)
  | .lst a, .lst b => Dat.samess a b
  | .nilp, .nilp => true
  | .nilf, .nilf => true
  | .nili, .nili => true
  | .nilm, .nilm => true
  | _, _ => false
def Dat.sames : List Dat → List Dat → Bool
  | [], [] => true
  | x :: l, y :: m => match Dat.same x y with
    | true => Dat.sames l m
    | false => false
  | _, _ => false
def Dat.samess : List (List Dat) → List (List Dat) → Bool
  | [], [] => true
  | x :: l, y :: m => match Dat.sames x y with
    | true => Dat.samess l m
    | false => false
  | _, _ => false
end
mutual
theorem Dat.same_eq : ∀ {a b : Dat}, Dat.same a b = true → a = b
  | .int k n, b, h => by
    cases b <;> simp [Dat.same] at h;rw [h.1, h.2]
  | .bool a, b, h => by
    cases b <;> simp [Dat.same] at h;rename_i b;cases a <;> cases b <;> simp at h <;> rfl
  | .str a, b, h => by
    cases b <;> simp [Dat.same] at h;rename_i b;cases a; cases b;simp at h;rw [h]
  | .lst a, b, h => by
    cases b <;> simp [Dat.same] at h;rw [Dat.samess_eq h]
  | .nilp, b, h => by cases b <;> simp [Dat.same] at h; rfl
  | .nilf, b, h => by cases b <;> simp [Dat.same] at h; rfl
  | .nili, b, h => by cases b <;> simp [Dat.same] at h; rfl
  | .nilm, b, h => by cases b <;> simp [Dat.same] at h; rfl
theorem Dat.sames_eq : ∀ {a b : List Dat}, Dat.sames a b = true → a = b
  | [], b, h => by cases b <;> simp [Dat.sames] at h; rfl
  | x :: l, [], h => by simp [Dat.sames] at h
  | x :: l, y :: m, h => by
    unfold Dat.sames at h;split at h
    · rename_i h1;rw [Dat.same_eq h1, Dat.sames_eq h]
    · cases h
theorem Dat.samess_eq : ∀ {a b : List (List Dat)}, Dat.samess a b = true → a = b
  | [], b, h => by cases b <;> simp [Dat.samess] at h; rfl
  | x :: l, [], h => by simp [Dat.samess] at h
  | x :: l, y :: m, h => by
    unfold Dat.samess at h;split at h
    · rename_i h1;rw [Dat.sames_eq h1, Dat.samess_eq h]
    · cases h
end
theorem Id.is_eq : ∀ {a b : Id}, Id.is a b = true → a = b
  | [], [], _ => rfl
  | [], _ :: _, h => by simp [Id.is] at h
  | _ :: _, [], h => by simp [Id.is] at h
  | n :: l, m :: k, h => by
    unfold Id.is at h;split at h
    · rename_i h1;rw [Nat.eq_of_beq_eq_true h1, Id.is_eq h]
    · cases h
mutual
def AV.same : AV → AV → Bool
  | .d x, .d y => Dat.same x y
  | .nils, .nils => true
  | .emp, .emp => true
  | .osl i a b, .osl j a' b' => Id.is i j && (Nat.beq a a' && Nat.beq b b')
  | .ptr i a, .ptr j b => Id.is i j && Nat.beq a b
  | .eptr i a b, .eptr j a' b' => Id.is i j && (Nat.beq a a' && Nat.beq b b')
  | .fn f a b, .fn g a' b' => Nat.beq f g && (AV.sames a a' && AV.sames b b')
  | .yld i, .yld j => Id.is i j
  | .mp i, .mp j => Id.is i j
  | .iface t v, .iface u w => Nat.beq t u && AV.same v w
  | .agg l, .agg m => AV.sames l m
  | .tup l, .tup m => AV.sames l m
  | .undef, .undef => true
  | _, _ => false
def AV.sames : List AV → List AV → Bool
  | [], [] => true
  | x :: l, y :: m => match AV.same x y with
    | true => AV.sames l m
    | false => false
  | _, _ => false
end
mutual
theorem AV.same_eq : ∀ {a b : AV}, AV.same a b = true → a = b
  | .d x, b, h => by
    cases b <;> simp [AV.same] at h;rw [Dat.same_eq h]
  | .agg l, b, h => by
    cases b <;> simp [AV.same] at h;rw [AV.sames_eq h]
  | .tup l, b, h => by
    cases b <;> simp [AV.same] at h;rw [AV.sames_eq h]
  | .nils, b, h => by cases b <;> simp [AV.same] at h; rfl
  | .emp, b, h => by cases b <;> simp [AV.same] at h; rfl
  | .undef, b, h => by cases b <;> simp [AV.same] at h; rfl
  | .osl .., b, h => by
    cases b <;> simp [AV.same] at h;rw [Id.is_eq h.1, h.2.1, h.2.2]
  | .ptr .., b, h => by
    cases b <;> simp [AV.same] at h;rw [Id.is_eq h.1, h.2]
  | .eptr .., b, h => by
    cases b <;> simp [AV.same] at h;rw [Id.is_eq h.1, h.2.1, h.2.2]
  | .iptr _, b, h => by simp [AV.same] at h
  | .fn f a c, b, h => by
    cases b <;> simp [AV.same] at h;rw [h.1, AV.sames_eq h.2.1, AV.sames_eq h.2.2]
  | .yld _, b, h => by
    cases b <;> simp [AV.same] at h;rw [Id.is_eq h]
  | .mp _, b, h => by
    cases b <;> simp [AV.same] at h;rw [Id.is_eq h]
  | .iface t v, b, h => by
    cases b <;> simp [AV.same] at h;rw [h.1, AV.same_eq h.2]
theorem AV.sames_eq : ∀ {a b : List AV}, AV.sames a b = true → a = b
  | [], b, h => by cases b <;> simp [AV.sames] at h; rfl
  | x :: l, [], h => by simp [AV.sames] at h
  | x :: l, y :: m, h => by
    unfold AV.sames at h;split at h
    · rename_i h1;rw [AV.same_eq h1, AV.sames_eq h]
    · cases h
end
def Obj.same : Obj → Option Obj → Bool
  | .box l, some (.box m) => AV.sames l m
  | .darr a l, some (.darr b m) => Nat.beq a b && Dat.samess l m
  | .fro a l, some (.fro b m) => Nat.beq a b && Dat.samess l m
  | _, _ => false
theorem Obj.same_eq {a : Obj} {b : Option Obj} (h : Obj.same a b = true) : b = some a := by
  unfold Obj.same at h;split at h
  · rw [AV.sames_eq h]
  · simp only [Bool.and_eq_true] at h;rw [Nat.eq_of_beq_eq_true h.1, Dat.samess_eq h.2]
  · simp only [Bool.and_eq_true] at h;rw [Nat.eq_of_beq_eq_true h.1, Dat.samess_eq h.2]
  · cases h
def diffH (h h' : Heap) : List Id := ((h ++ h').filter fun p => match h.get p.1 with
  | some o => !Obj.same o (h'.get p.1)
  | none => true).map (·.1)
theorem Heap.get_mem : ∀ {h : Heap} {id : Id} {o : Obj}, h.get id = some o → (id, o) ∈ h
  | [], _, _, hg => by cases hg
  | (k, o') :: h, id, o, hg => by
    unfold Heap.get at hg;split at hg
    · rename_i h1;cases hg;rw [Id.is_eq h1];simp
    · exact List.mem_cons_of_mem _ (Heap.get_mem hg)
theorem diffH_not {h h' : Heap} {id : Id} (hi : id ∉ diffH h h') : h'.get id = h.get id := by
  have key : ∀ o, (id, o) ∈ h ++ h' → h'.get id = h.get id := fun o ho => by
    have : ¬ (match h.get id with | some o => !Obj.same o (h'.get id) | none => true) = true := fun hc =>
      hi (List.mem_map.2 ⟨(id, o), List.mem_filter.2 ⟨ho, hc⟩, rfl⟩)
    split at this
    · rename_i o2 h2;rw [h2];exact Obj.same_eq (by simpa using this)
    · exact absurd rfl this
  cases h1 : h.get id with
  | some o => rw [← h1]; exact key o (List.mem_append_left _ (Heap.get_mem h1))
  | none => cases h2 : h'.get id with
    | some o => rw [← h1, ← h2]; exact key o (List.mem_append_right _ (Heap.get_mem h2))
    | none => rfl
def Heap.put : Heap → Id → Obj → Heap
  | [], id, o => [(id, o)]
  | (k, x) :: h, id, o => match Id.is k id with
    | true => (k, o) :: h
    | false => (k, x) :: Heap.put h id o
def Heap.puts (h : Heap) (δ : Heap) : Heap := δ.foldl (fun h p => h.put p.1 p.2) h
inductive TK where
  | bool | int | str | func | ptr | iface | slice | map | other
  | flat (ks : List TK)
structure TI where
  kind : TK
  size : Nat
  agg : Bool
  str : Bool
  zero : List AV
  flds : List (Nat × Nat × Bool)
  elem : TypeId
  key : TypeId
  mix : Bool
inductive Mode where
  | auto | own | raw | ro
  deriving DecidableEq
structure Cfg where
  T : TypeId → Option TI
  mode : FuncId → Mode
  live : FuncId → Nat → List Nat
  pairs : FuncId → Nat → List (Nat × Nat)
  alone : FuncId → Nat → Nat → Bool
  caught : FuncId → Option TypeId
  meth : TypeId → String → Option FuncId
  good : FuncId → Bool
def avConst : Value → AV
  | .int k n => .d (.int k n)
  | .bool b => .d (.bool b)
  | .string s => .d (.str s)
  | .slice none 0 0 => .nils
  | .pointer none => .d .nilp
  | .nilFunc => .d .nilf
  | .nilIface => .d .nili
  | .map none => .d .nilm
  | _ => .undef
def ev (e : Nat → AV) : Operand → AV
  | .tmp t => e t
  | .const v => avConst v
  | .func f => .fn f [] []
  | .global _ => .undef
def AV.cells : AV → List AV
  | .agg cs => cs
  | v => [v]
def AV.isCell : AV → Bool
  | .agg _ => false
  | .tup _ => false
  | .undef => false
  | _ => true
def mkAgg (agg : Bool) (cs : List AV) : Option AV :=
  if agg then some (.agg cs) else match cs with
    | [c] => some c
    | _ => none
def seg {α : Type} (l : List α) (off n : Nat) : Option (List α) :=
  if off + n ≤ l.length then some ((l.drop off).take n) else none
def splice {α : Type} (l : List α) (off : Nat) (new : List α) : Option (List α) :=
  if off + new.length ≤ l.length then some (l.take off ++ new ++ l.drop (off + new.length)) else none
structure Eff where
  v : AV
  δ : Heap := []
abbrev G := Id → Option Obj
def arrOf : Option Obj → Option (List (List AV))
  | some (.darr _ es) => some (es.map (·.map .d))
  | some (.fro _ es) => some (es.map (·.map .d))
  | some (.arr _ es) => some es
  | _ => none
def loadV (g : G) (i : TI) : AV → Option AV
  | .ptr id off => match g id with
    | some (.box cs) => (seg cs off i.size).bind (mkAgg i.agg)
    | _ => none
  | .eptr id k off => match g id with
    | some (.darr _ es) => match es[k]? with
      | some e => (seg e off i.size).bind fun ds => mkAgg i.agg (ds.map .d)
      | none => none
    | some (.fro _ es) => match es[k]? with
      | some e => (seg e off i.size).bind fun ds => mkAgg i.agg (ds.map .d)
      | none => none
    | some (.arr _ es) => match es[k]? with
      | some e => (seg e off i.size).bind (mkAgg i.agg)
      | none => none
    | _ => none
  | .iptr cs => (seg cs 0 i.size).bind fun ds => mkAgg i.agg (ds.map .d)
  | _ => none
section force
variable {α : Type}
def fNat (n : Nat) (k : Nat → α) : α := match n with
  | 0 => k 0
  | m + 1 => k (Nat.succ m)
def fBool (b : Bool) (k : Bool → α) : α := match b with
  | true => k true
  | false => k false
def fInt (n : Int) (k : Int → α) : α := match n with
  | .ofNat m => fNat m fun m => k (.ofNat m)
  | .negSucc m => fNat m fun m => k (.negSucc m)
def fKind (x : IntKind) (k : IntKind → α) : α := match x with
  | .i8 => k .i8 | .i16 => k .i16 | .i32 => k .i32 | .i64 => k .i64
  | .u8 => k .u8 | .u16 => k .u16 | .u32 => k .u32 | .u64 => k .u64
def fNats (l : List Nat) (k : List Nat → α) : α := match l with
  | [] => k []
  | n :: l => fNat n fun n => fNats l fun l => k (n :: l)
def fDat (x : Dat) (k : Dat → α) : α := match x with
  | .int kd n => fKind kd fun kd => fInt n fun n => k (.int kd n)
  | .bool b => fBool b fun b => k (.bool b)
  | .str s => k (.str s)
  | .lst es => k (.lst es)
  | .nilp => k .nilp
  | .nilf => k .nilf
  | .nili => k .nili
  | .nilm => k .nilm
def fDats (l : List Dat) (k : List Dat → α) : α := match l with
  | [] => k []
  | x :: l => fDat x fun x => fDats l fun l => k (x :: l)
def fDatss (l : List (List Dat)) (k : List (List Dat) → α) : α := match l with
  | [] => k []
  | x :: l => fDats x fun x => fDatss l fun l => k (x :: l)
def fDat' (x : Dat) (k : Dat → α) : α := match x with
  | .lst es => fDatss es fun es => k (.lst es)
  | x => fDat x k
def fAV0 (v : AV) (k : AV → α) : α := match v with
  | .d x => fDat' x fun x => k (.d x)
  | .nils => k .nils
  | .emp => k .emp
  | .osl id off len => fNats id fun id => fNat off fun off => fNat len fun len => k (.osl id off len)
  | .ptr id off => fNats id fun id => fNat off fun off => k (.ptr id off)
  | .eptr id i off => fNats id fun id => fNat i fun i => fNat off fun off => k (.eptr id i off)
  | .iptr cs => fDats cs fun cs => k (.iptr cs)
  | .fn f a b => fNat f fun f => k (.fn f a b)
  | .yld id => fNats id fun id => k (.yld id)
  | .mp id => fNats id fun id => k (.mp id)
  | .iface t v => fNat t fun t => k (.iface t v)
  | .agg cs => k (.agg cs)
  | .tup vs => k (.tup vs)
  | .undef => k .undef
def fAVs0 (l : List AV) (k : List AV → α) : α := match l with
  | [] => k []
  | x :: l => fAV0 x fun x => fAVs0 l fun l => k (x :: l)
def fAV1 (v : AV) (k : AV → α) : α := match v with
  | .agg cs => fAVs0 cs fun cs => k (.agg cs)
  | .tup vs => fAVs0 vs fun vs => k (.tup vs)
  | .fn f a b => fNat f fun f => fAVs0 a fun a => fAVs0 b fun b => k (.fn f a b)
  | .iface t v => fNat t fun t => fAV0 v fun v => k (.iface t v)
  | v => fAV0 v k
def fAVs1 (l : List AV) (k : List AV → α) : α := match l with
  | [] => k []
  | x :: l => fAV1 x fun x => fAVs1 l fun l => k (x :: l)
def fAV (v : AV) (k : AV → α) : α := match v with
  | .tup vs => fAVs1 vs fun vs => k (.tup vs)
  | .agg cs => fAVs1 cs fun cs => k (.agg cs)
  | .iface t v => fNat t fun t => fAV1 v fun v => k (.iface t v)
  | v => fAV1 v k
def fAVss (l : List (List AV)) (k : List (List AV) → α) : α := match l with
  | [] => k []
  | x :: l => fAVs1 x fun x => fAVss l fun l => k (x :: l)
def fEntries (l : List (Dat × AV)) (k : List (Dat × AV) → α) : α := match l with
  | [] => k []
  | (x, v) :: l => fDat x fun x => fAV1 v fun v => fEntries l fun l => k ((x, v) :: l)
def fObj (o : Obj) (k : Obj → α) : α := match o with
  | .box cs => fAVs1 cs fun cs => k (.box cs)
  | .darr sz es => fNat sz fun sz => fDatss es fun es => k (.darr sz es)
  | .fro sz es => fNat sz fun sz => fDatss es fun es => k (.fro sz es)
  | .arr sz es => fNat sz fun sz => fAVss es fun es => k (.arr sz es)
  | .map es => fEntries es fun es => k (.map es)
  | .loop r => k (.loop r)
def fHeap (h : Heap) (k : Heap → α) : α := match h with
  | [] => k []
  | (id, o) :: h => fNats id fun id => fObj o fun o => fHeap h fun h => k ((id, o) :: h)
def fHeap0 (h : Heap) (k : Heap → α) : α := match h with
  | [] => k []
  | (id, o) :: h => fHeap0 h fun h => k ((id, o) :: h)
def fEnv (e : Env) (k : Env → α) : α := match e with
  | [] => k []
  | (t, v) :: e => fNat t fun t => fAV1 v fun v => fEnv e fun e => k ((t, v) :: e)
def fEnv0 (e : Env) (k : Env → α) : α := match e with
  | [] => k []
  | p :: e => k (p :: e)
end force
def frzC (g : G) : AV → Option Dat
  | .d x => some x
  | .nils => some (.lst [])
  | .emp => some (.lst [])
  | .osl id off n => match g id with
    | some (.darr _ es) => (seg es off n).map .lst
    | some (.fro _ es) => (seg es off n).map .lst
    | _ => none
  | _ => none
def frzCs (g : G) : List AV → Option (List Dat)
  | [] => some []
  | v :: vs => match frzC g v, frzCs g vs with
    | some x, some xs => some (x :: xs)
    | _, _ => none
def frzEs (g : G) : List (List AV) → Option (List (List Dat))
  | [] => some []
  | v :: vs => match frzCs g v, frzEs g vs with
    | some x, some xs => some (x :: xs)
    | _, _ => none
def frzD (g : G) : AV → Option Dat
  | .osl id off n => match g id with
    | some (.arr _ es) => match frzEs g es with
      | some ds => (seg ds off n).map .lst
      | none => none
    | _ => frzC g (.osl id off n)
  | v => frzC g v
def frzDs (g : G) : List AV → Option (List AV)
  | [] => some []
  | v :: vs => match frzD g v, frzDs g vs with
    | some x, some xs => some (.d x :: xs)
    | _, _ => none
def frz1 (g : G) : AV → Option AV
  | .agg cs => (frzDs g cs).map .agg
  | .fn f [] [] => some (.fn f [] [])
  | .iface t (.agg cs) => (frzDs g cs).map fun c => .iface t (.agg c)
  | .iface t v => (frzD g v).map fun x => .iface t (.d x)
  | v => (frzD g v).map .d
def frzL (g : G) : List AV → Option (List AV)
  | [] => some []
  | v :: vs => match frz1 g v, frzL g vs with
    | some x, some xs => some (x :: xs)
    | _, _ => none
def frz (g : G) : AV → Option AV
  | .tup vs => (frzL g vs).map .tup
  | v => frz1 g v
def markC (g : G) : AV → Heap
  | .osl id _ _ => match g id with
    | some (.darr sz es) => [(id, .fro sz es)]
    | _ => []
  | _ => []
def markCs (g : G) (l : List AV) : Heap := l.flatMap (markC g)
def mark1 (g : G) : AV → Heap
  | .osl id off n => match g id with
    | some (.darr sz es) => [(id, .fro sz es)]
    | some (.arr sz es) => match frzEs g es with
      | some ds => (id, .fro sz ds) :: es.flatMap (markCs g)
      | none => []
    | _ => []
  | _ => []
def parts : AV → List AV
  | .agg cs => cs
  | .iface _ (.agg cs) => cs
  | .iface _ v => [v]
  | v => [v]
def mark (g : G) (v : AV) : Heap := (parts v).flatMap (mark1 g)
def flatD : Dat → Bool
  | .lst _ => false
  | _ => true
def flatL : List AV → Bool
  | [] => true
  | .d x :: vs => flatD x && flatL vs
  | _ => false
def flat : AV → Bool
  | .d x => flatD x
  | .nils => true
  | .emp => true
  | .agg cs => flatL cs
  | .tup vs => flatL vs
  | .iface _ (.d x) => flatD x
  | .iface _ (.agg cs) => flatL cs
  | _ => false
def flatArr (v : AV) (h : Heap) : Option (Id × Obj) :=
  match v with
  | .osl id _ _ => match h.get id with
    | some (.darr sz es) => if es.all (·.all flatD) then some (id, .darr sz es) else none
    | _ => none
  | _ => none
def notIn (id : Id) (δ : Heap) : Bool := δ.all fun p => !Id.is p.1 id
def storeV (g : G) (i : TI) (a v : AV) : Option Eff :=
  match v.cells.length == i.size && v.cells.all AV.isCell with
  | false => none
  | true => match a with
    | .ptr id off => match g id with
      | some (.box cs) => (splice cs off v.cells).map fun cs' => ⟨.undef, [(id, .box cs')]⟩
      | _ => none
    | .eptr id k off => match g id with
      | some (.darr sz es) => match es[k]?, frzCs g v.cells, notIn id (markCs g v.cells) with
        | some e, some ds, true => (splice e off ds).map fun e' => ⟨.undef, markCs g v.cells ++ [(id, .darr sz (es.set k e'))]⟩
        | _, _, _ => none
      | some (.arr sz es) => match es[k]? with
        | some e => (splice e off v.cells).map fun e' => ⟨.undef, [(id, .arr sz (es.set k e'))]⟩
        | none => none
      | _ => none
    | _ => none
def chunks {α : Type} (sz : Nat) : Nat → List α → List (List α)
  | 0, _ => []
  | n + 1, l => l.take sz :: chunks sz n (l.drop sz)
def maxList : Nat := 2 ^ 30
def newArr (g : G) (newId : Id) (j : TI) (es : List (List AV)) : Option Eff :=
  match es.all (fun e => e.length == j.size && e.all AV.isCell) && Nat.blt 0 j.size && Nat.ble es.length maxList with
  | false => none
  | true => match j.mix with
    | true => some ⟨.osl (1 :: newId) 0 es.length, [(1 :: newId, .arr j.size es)]⟩
    | false => match frzEs g es with
      | some ds => some ⟨.osl (1 :: newId) 0 es.length, es.flatMap (markCs g) ++ [(1 :: newId, .darr j.size ds)]⟩
      | none => none
def elemsV (g : G) : AV → Option (List (List AV))
  | .d (.lst es) => some (es.map (·.map .d))
  | .nils => some []
  | .emp => some []
  | .osl id off n => (arrOf (g id)).bind fun es => seg es off n
  | _ => none
def appIn (g : G) (newId : Id) (id : Id) (off n sz : Nat) (es : List (List Dat)) (src : List (List AV)) : Option Eff :=
  match frzEs g src, notIn id (src.flatMap (markCs g)) with
  | some ds, true => match splice es (off + n) ds with
    | some es' => some ⟨.osl id off (n + ds.length), src.flatMap (markCs g) ++ [(id, .darr sz es')]⟩
    | none => match Nat.beq off 0 && Nat.ble (n + ds.length) maxList with
      | true => some ⟨.osl (1 :: newId) 0 (n + ds.length), src.flatMap (markCs g) ++ [(id, .fro 0 []), (1 :: newId, .darr sz (es.take n ++ ds))]⟩
      | false => none
  | _, _ => none
def appMix (newId : Id) (id : Id) (off n sz : Nat) (es : List (List AV)) (src : List (List AV)) : Option Eff :=
  match splice es (off + n) src with
  | some es' => some ⟨.osl id off (n + src.length), [(id, .arr sz es')]⟩
  | none => match Nat.beq off 0 && Nat.ble (n + src.length) maxList with
    | true => some ⟨.osl (1 :: newId) 0 (n + src.length), [(id, .fro 0 []), (1 :: newId, .arr sz (es.take n ++ src))]⟩
    | false => none
def appTo (g : G) (newId : Id) (j : TI) (s : AV) (src : List (List AV)) : Option Eff :=
  match s with
  | .nils => newArr g newId j src
  | .emp => newArr g newId j src
  | .osl id off n => match g id with
    | some (.darr sz es) => match Nat.beq sz j.size && Nat.ble (off + n) es.length with
      | true => appIn g newId id off n sz es src
      | false => none
    | some (.arr sz es) => match Nat.beq sz j.size && Nat.ble (off + n) es.length with
      | true => appMix newId id off n sz es src
      | false => none
    | _ => none
  | _ => none
def appendV (g : G) (newId : Id) (j : TI) (s x : AV) : Option Eff :=
  match elemsV g x with
  | none => none
  | some [] => match s with
    | .nils => some ⟨.nils, []⟩
    | .emp => some ⟨.emp, []⟩
    | .osl id off n => some ⟨.osl id off n, []⟩
    | _ => none
  | some src => match src.all (fun c => c.length == j.size && c.all AV.isCell) && Nat.ble src.length maxList && Nat.blt 0 j.size with
    | true => appTo g newId j s src
    | false => none
def intBin (op : BinOp) (k : IntKind) (a b : Int) : Option AV :=
  match op with
  | .add => some (.d (.int k (k.wrap (a + b))))
  | .sub => some (.d (.int k (k.wrap (a - b))))
  | .mul => some (.d (.int k (k.wrap (a * b))))
  | .eql => some (.d (.bool (a == b)))
  | .neq => some (.d (.bool (a != b)))
  | .lss => some (.d (.bool (decide (a < b))))
  | .leq => some (.d (.bool (decide (a ≤ b))))
  | .gtr => some (.d (.bool (decide (b < a))))
  | .geq => some (.d (.bool (decide (b ≤ a))))
  | .rem => if b = 0 then none else some (.d (.int k (a.tmod b)))
  | .quo => if b = 0 then none else some (.d (.int k (k.wrap (a.tdiv b))))
  | _ => none
def cellEq : TK → AV → AV → Option Bool
  | .int, .d (.int k a), .d (.int k' b) => if k = k' then some (a == b) else none
  | .bool, .d (.bool a), .d (.bool b) => some (a == b)
  | .str, .d (.str a), .d (.str b) => some (a == b)
  | _, _, _ => none
def cellsEq : List TK → List AV → List AV → Option Bool
  | [], [], [] => some true
  | t :: ts, x :: xs, y :: ys => match cellEq t x y, cellsEq ts xs ys with
    | some a, some b => some (a && b)
    | _, _ => none
  | _, _, _ => none
def avEq : TK → AV → AV → Option Bool
  | .flat ks, .agg cs, .agg ds => cellsEq ks cs ds
  | .func, .fn .., .d .nilf => some false
  | .func, .d .nilf, .d .nilf => some true
  | .ptr, .ptr .., .d .nilp => some false
  | .ptr, .d .nilp, .d .nilp => some true
  | .iface, .iface .., .d .nili => some false
  | .slice, .d (.lst (_ :: _)), .nils => some false
  | .slice, .osl _ _ (_ + 1), .nils => some false
  | .slice, .nils, .nils => some true
  | .bool, x, y => cellEq .bool x y
  | .str, x, y => cellEq .str x y
  | _, _, _ => none
def strBin (op : BinOp) (a b : ByteArray) : Option AV :=
  match op with
  | .lss => some (.d (.bool (Op.bytesLess a.toList b.toList)))
  | .leq => some (.d (.bool (Op.bytesLess a.toList b.toList || a.toList == b.toList)))
  | .gtr => some (.d (.bool (!(Op.bytesLess a.toList b.toList || a.toList == b.toList))))
  | .geq => some (.d (.bool (!Op.bytesLess a.toList b.toList)))
  | _ => none
def strV (op : BinOp) : AV → AV → Option AV
  | .d (.str a), .d (.str b) => strBin op a b
  | _, _ => none
def binV (op : BinOp) (x y : AV) (t : Option TI) : Option AV :=
  match x, y with
  | .d (.int k a), .d (.int k' b) => if k = k' then intBin op k a b else none
  | x, y => match t with
    | some i => match op, avEq i.kind x y with
      | .eql, some b => some (.d (.bool b))
      | .neq, some b => some (.d (.bool (!b)))
      | _, _ => strV op x y
    | none => none
def isC : Operand → Bool
  | .const _ => true
  | _ => false
def nilV (c : Bool) (op : BinOp) : AV → AV → Option TI → Option AV
  | .d .nili, .d .nili, some i => match c, i.kind, op with
    | true, .iface, .eql => some (.d (.bool true))
    | true, .iface, .neq => some (.d (.bool false))
    | _, _, _ => none
  | _, _, _ => none
def orV : Option AV → Option AV → Option AV
  | some v, _ => some v
  | none, r => r
def binW (c : Bool) (op : BinOp) (x y : AV) (t : Option TI) : Option AV := orV (binV op x y t) (nilV c op x y t)
def lenV (g : G) : TK → AV → Option Nat
  | .slice, .d (.lst es) => some es.length
  | .str, .d (.str s) => some s.size
  | .slice, .nils => some 0
  | .slice, .emp => some 0
  | .slice, .osl _ _ n => some n
  | .map, .mp id => match g id with
    | some (.map es) => some es.length
    | _ => none
  | _, _ => none
def fillParts : (place : Nat → Option (Nat × Nat)) → List AV → List (Nat × AV) → Option (List AV)
  | _, cs, [] => some cs
  | pl, cs, (i, v) :: ps => match pl i with
    | some (off, size) => if v.cells.length = size ∧ v.cells.all AV.isCell then (splice cs off v.cells).bind fun cs' => fillParts pl cs' ps else none
    | none => none
def intOf? : AV → Option Int
  | .d (.int _ n) => some n
  | _ => none
def bound? : Option AV → Int → Option Int
  | none, d => some d
  | some v, _ => intOf? v
def bounds (lo hi mx : Option AV) (n : Nat) : Option (Nat × Nat × Option Nat) :=
  match bound? lo 0, bound? hi n with
  | some l, some r => match mx with
    | none => if 0 ≤ l ∧ l ≤ r then some (l.toNat, r.toNat, none) else none
    | some m => match hi, intOf? m with
      | some _, some m => if 0 ≤ l ∧ l ≤ r ∧ r ≤ m then some (l.toNat, r.toNat, some m.toNat) else none
      | _, _ => none
  | _, _ => none
def eachLen (sz : Nat) (es : List (List Dat)) : Bool := match es with
  | [] => true
  | e :: _ => Nat.beq e.length sz
def sliceL (sz : Nat) (es : List (List Dat)) : Option (Nat × Nat × Option Nat) → Option AV
  | some (l, r, m) => match Nat.ble r es.length && eachLen sz es with
    | true => match m with
      | none => some (.d (.lst ((es.drop l).take (r - l))))
      | some m => match Nat.beq m l with
        | true => some .emp
        | false => none
    | false => none
  | none => none
def fitO (sz : Nat) (id : Id) (off l r : Nat) (m : Option Nat) (s n : Nat) : Option AV :=
  match Nat.beq s sz && Nat.ble (off + m.getD r) n && Nat.ble (off + r) n && Nat.blt 0 n with
  | true => match m with
    | none => some (.osl id (off + l) (r - l))
    | some m => match Nat.beq m l with
      | true => some .emp
      | false => some .undef
  | false => none
def sliceO (g : G) (sz : Nat) (id : Id) (off : Nat) : Option (Nat × Nat × Option Nat) → Option AV
  | some (l, r, m) => match g id with
    | some (.darr s es) => fitO sz id off l r m s es.length
    | some (.fro s es) => fitO sz id off l r m s es.length
    | some (.arr s es) => fitO sz id off l r m s es.length
    | _ => none
  | none => none
def sliceNil : Option (Nat × Nat × Option Nat) → Option AV
  | some (0, 0, none) => some .nils
  | some (0, 0, some 0) => some .emp
  | _ => none
def sliceS (s : ByteArray) : Option (Nat × Nat × Option Nat) → Option AV
  | some (l, r, none) => if r ≤ s.size then some (.d (.str (s.extract l r))) else none
  | _ => none
def sliceV (g : G) (k : TK) (sz : Nat) (x : AV) (lo hi mx : Option AV) : Option AV :=
  match k, x with
  | .slice, .d (.lst es) => sliceL sz es (bounds lo hi mx es.length)
  | .slice, .osl id off n => sliceO g sz id off (bounds lo hi mx n)
  | .slice, .nils => sliceNil (bounds lo hi mx 0)
  | .str, .d (.str s) => sliceS s (bounds lo hi mx s.size)
  | _, _ => none
def evParts (e : Nat → AV) (ps : Array (Nat × Operand)) : List (Nat × AV) := ps.toList.map fun p => (p.1, ev e p.2)
def datEq : Dat → Dat → Option Bool
  | .int k a, .int k' b => if k = k' then some (a == b) else none
  | .str a, .str b => some (a == b)
  | .bool a, .bool b => some (a == b)
  | _, _ => none
def mapGet : List (Dat × AV) → Dat → Option (Option AV)
  | [], _ => some none
  | (k, v) :: es, x => match datEq k x with
    | some true => some (some v)
    | some false => mapGet es x
    | none => none
def mapSet : List (Dat × AV) → Dat → AV → List (Dat × AV)
  | [], x, v => [(x, v)]
  | (k, w) :: es, x, v => match datEq k x with
    | some true => (k, v) :: es
    | _ => (k, w) :: mapSet es x v
def datOf : AV → Option Dat
  | .d x => some x
  | _ => none
def keyOk : TK → Dat → Bool
  | .int, .int .. => true
  | .str, .str _ => true
  | .bool, .bool _ => true
  | _, _ => false
def mapPut (T : TypeId → Option TI) (g : G) (t : Option TI) (m k v : AV) : Option Eff :=
  match (match t, datOf k with
    | some i, some x => match i.kind, T i.key with
      | .map, some kt => keyOk kt.kind x && v.isCell
      | _, _ => false
    | _, _ => false) with
  | false => none
  | true => match m, datOf k with
  | .mp id, some x => match g id with
    | some (.map es) => match mapGet es x with
      | some _ => some ⟨.undef, [(id, .map (mapSet es x v))]⟩
      | none => none
    | _ => none
  | _, _ => none
section ops
variable (T : TypeId → Option TI) (e : Nat → AV) (g : G) (newId : Id)
def opPick (c a b : AV) : Option Eff := match c with
  | .d (.bool t) => some ⟨match t with | true => a | false => b, []⟩
  | _ => none
def opAlloc : Option TI → Option Eff
  | some i => if i.zero.length = i.size ∧ i.zero.all AV.isCell then some ⟨.ptr (0 :: newId) 0, [(0 :: newId, .box i.zero)]⟩ else none
  | none => none
def opBox (x : AV) : Option TI → Option Eff
  | some i => if x.cells.length = i.size ∧ x.cells.all AV.isCell then some ⟨.ptr (0 :: newId) 0, [(0 :: newId, .box x.cells)]⟩ else none
  | none => none
def opBuild (ps : List (Nat × AV)) : Option TI → Option Eff
  | some i => match i.str && i.zero.length == i.size with
    | false => none
    | true => (fillParts (fun k => (i.flds[k]?).map fun f => (f.1, f.2.1)) i.zero ps).map fun cs => ⟨.agg cs, []⟩
  | none => none
def buildArr (n : Nat) (ps : List (Nat × AV)) (j : TI) : Option Eff :=
  match fillParts (fun k => some (k * j.size, j.size)) ((List.replicate n j.zero).flatten) ps with
  | some cs => match n with
    | 0 => some ⟨.emp, []⟩
    | n => match Nat.ble (n * j.size) (2 ^ 24) && j.zero.length == j.size with
      | true => newArr g newId j (chunks j.size n cs)
      | false => none
  | none => none
def opBuildSlice (n : Nat) (ps : List (Nat × AV)) : Option TI → Option Eff
  | some i => match i.kind, T i.elem with
    | .slice, some j => buildArr g newId n ps j
    | _, _ => none
  | none => none
def opLoad (a : AV) : Option TI → Option Eff
  | some i => (loadV g i a).map (⟨·, []⟩)
  | none => none
def opStore (a x : AV) : Option TI → Option Eff
  | some i => storeV g i a x
  | none => none
def opNilCheck : AV → Option Eff
  | .ptr id off => some ⟨.ptr id off, []⟩
  | .eptr id k off => some ⟨.eptr id k off, []⟩
  | .iptr cs => some ⟨.iptr cs, []⟩
  | _ => none
def opNot : AV → Option Eff
  | .d (.bool b) => some ⟨.d (.bool (!b)), []⟩
  | _ => none
def opAssert (t : TypeId) : AV → Option TI → Option Eff
  | .iface t' v, some i => match i.kind with
    | .iface => none
    | _ => if t' = t then some ⟨.tup [v, .d (.bool true)], []⟩ else (mkAgg i.agg i.zero).map fun z => ⟨.tup [z, .d (.bool false)], []⟩
  | _, _ => none
def lookIn (ok : Bool) (r : Option AV) (j : TI) : Option Eff :=
  match r, mkAgg j.agg j.zero with
  | some v, _ => some ⟨match ok with | true => .tup [v, .d (.bool true)] | false => v, []⟩
  | none, some z => some ⟨match ok with | true => .tup [z, .d (.bool false)] | false => z, []⟩
  | _, _ => none
def opLookup (m k : AV) (ok : Bool) : Option TI → Option Eff
  | some i => match m, datOf k, i.kind, T i.key with
    | .mp id, some x, .map, some kt => match keyOk kt.kind x, g id with
      | true, some (.map es) => match mapGet es x, T i.elem with
        | some r, some j => lookIn ok r j
        | _, _ => none
      | _, _ => none
    | _, _, _, _ => none
  | none => none
def makeArr (n : Nat) (j : TI) : Option Eff := match n with
  | 0 => some ⟨.emp, []⟩
  | n => newArr g newId j (List.replicate n j.zero)
def opMakeSlice (l c : AV) : Option TI → Option Eff
  | some i => match i.kind, T i.elem, l, c with
    | .slice, some j, .d (.int _ n), .d (.int _ m) => if 0 ≤ n ∧ n = m ∧ n ≤ maxList then makeArr g newId n.toNat j else none
    | _, _, _, _ => none
  | none => none
def opFieldAddr (k : Nat) (x : AV) : Option TI → Option Eff
  | some i => match i.flds[k]? with
    | some f => match f.2.1 with
      | 0 => none
      | _ => match x with
        | .ptr id off => some ⟨.ptr id (off + f.1), []⟩
        | .eptr id n off => some ⟨.eptr id n (off + f.1), []⟩
        | .iptr cs => if f.1 ≤ cs.length then some ⟨.iptr (cs.drop f.1), []⟩ else none
        | _ => none
    | none => none
  | none => none
def opField (k : Nat) (x : AV) : Option TI → Option Eff
  | some i => match i.flds[k]?, x with
    | some f, .agg cs => ((seg cs f.1 f.2.1).bind (mkAgg f.2.2)).map (⟨·, []⟩)
    | _, _ => none
  | none => none
def idxAt (n : Int) (x : AV) (j : TI) : Option Eff :=
  if 0 ≤ n then match x with
    | .d (.lst es) => match es[n.toNat]? with
      | some c => match Nat.beq c.length j.size with
        | true => some ⟨.iptr c, []⟩
        | false => none
      | none => none
    | .osl id off len => if n.toNat < len then match g id with
        | some (.darr sz es) => if sz = j.size ∧ off + n.toNat < es.length then some ⟨.eptr id (off + n.toNat) 0, []⟩ else none
        | some (.fro sz es) => if sz = j.size ∧ off + n.toNat < es.length then some ⟨.eptr id (off + n.toNat) 0, []⟩ else none
        | some (.arr sz es) => if sz = j.size ∧ off + n.toNat < es.length then some ⟨.eptr id (off + n.toNat) 0, []⟩ else none
        | _ => none
      else none
    | _ => none
  else none
def opIndexAddr (x i : AV) : Option TI → Option Eff
  | some t => match i, t.kind, T t.elem with
    | .d (.int _ n), .slice, some j => idxAt g n x j
    | _, _, _ => none
  | none => none
def opIndex (x i : AV) (t : Option TI) : Option Eff := match t.map TI.kind, x, i with
  | some .str, .d (.str s), .d (.int _ n) => if 0 ≤ n then (s.data.toList[n.toNat]?).map fun b => ⟨.d (.int .u8 b.toNat), []⟩ else none
  | _, _, _ => none
def opExtract (k : Nat) (x : AV) : Option Eff := match x with
  | .tup vs => (vs[k]?).map (⟨·, []⟩)
  | _ => none
def opAppend (t u : Option TI) (s x : AV) : Option Eff :=
  match t, u with
  | some i, some u => match i.kind, u.kind, T i.elem with
    | .slice, .slice, some j => appendV g newId j s x
    | _, _, _ => none
  | _, _ => none
def clearIn (id : Id) (off n : Nat) (j : TI) : Option Eff :=
  match g id with
  | some (.darr sz es) => match frzCs (fun _ => none) j.zero with
    | some z => if z.length = sz ∧ j.zero.length = j.size ∧ j.zero.all AV.isCell ∧ 0 < sz then (splice es off (List.replicate n z)).map fun es' => ⟨.undef, [(id, .darr sz es')]⟩ else none
    | none => none
  | _ => none
def opClear (t : Option TI) (x : AV) : Option Eff :=
  match t with
  | some i => match i.kind, x with
    | .slice, .osl id off n => match n with
      | 0 => some ⟨.undef, []⟩
      | n => match T i.elem with
        | some j => clearIn g id off n j
        | none => none
    | .slice, .nils => some ⟨.undef, []⟩
    | .slice, .emp => some ⟨.undef, []⟩
    | _, _ => none
  | none => none
def opMax (x y : AV) : Option Eff := match x, y with
  | .d (.int k a), .d (.int k' b) => if k = k' then some ⟨.d (.int k (if b > a then b else a)), []⟩ else none
  | _, _ => none
def opMin (x y : AV) : Option Eff := match x, y with
  | .d (.int k a), .d (.int k' b) => if k = k' then some ⟨.d (.int k (if b < a then b else a)), []⟩ else none
  | _, _ => none
def opBuiltin (b : Builtin) (as : List AV) (ts : List TypeId) : Option Eff :=
  match b with
  | .len => match as with
    | [x] => match ts with
      | [t] => match T t with
        | some i => (lenV g i.kind x).map fun (n : Nat) => ⟨.d (.int .i64 (n : Int)), []⟩
        | none => none
      | _ => none
    | _ => none
  | .append => match as, ts with
    | [s, x], [t, u] => opAppend T g newId (T t) (T u) s x
    | _, _ => none
  | .clear => match as, ts with
    | [x], [t] => opClear T g (T t) x
    | _, _ => none
  | .max => match as with
    | [x, y] => opMax x y
    | _ => none
  | .min => match as with
    | [x, y] => opMin x y
    | _ => none
  | _ => none
def opCall (c : Call) : Option Eff := match c.callee with
  | .builtin b => opBuiltin T g newId b (c.args.toList.map (ev e)) c.argTypes.toList
  | _ => none
def opUn (op : UnOp) (x : AV) : Option Eff := match op with
  | .not => opNot x
  | _ => none
def opMakeFunc (f : Fn) (a b : List AV) : Option Eff := match f with
  | .func f => some ⟨.fn f a b, []⟩
  | _ => none
def opMakeMap : Option Operand → Option Eff
  | none => some ⟨.mp (1 :: newId), [(1 :: newId, .map [])]⟩
  | some _ => none
def opIface (t : TypeId) (x : AV) : Option TI → Option Eff
  | some i => match i.kind with
    | .iface => none
    | _ => some ⟨.iface t x, []⟩
  | none => none
def opSlice (x : AV) (lo hi mx : Option AV) : Option TI → Option Eff
  | some i => match i.kind, T i.elem with
    | .slice, some j => (sliceV g .slice j.size x lo hi mx).map (⟨·, []⟩)
    | .str, _ => (sliceV g .str 0 x lo hi mx).map (⟨·, []⟩)
    | _, _ => none
  | none => none
def evalOp (o : Op) : Option Eff :=
  match o with
  | .move x => some ⟨ev e x, []⟩
  | .assign x => some ⟨ev e x, []⟩
  | .pick c a b => opPick (ev e c) (ev e a) (ev e b)
  | .alloc t => opAlloc newId (T t)
  | .box t x => opBox newId (ev e x) (T t)
  | .build t ps => opBuild (evParts e ps) (T t)
  | .buildSlice t n ps => opBuildSlice T g newId n (evParts e ps) (T t)
  | .load t a => opLoad g (ev e a) (T t)
  | .store t a x => opStore g (ev e a) (ev e x) (T t)
  | .nilCheck x => opNilCheck (ev e x)
  | .binOp op t x y _ => (binW (isC x || isC y) op (ev e x) (ev e y) (T t)).map (⟨·, []⟩)
  | .unOp op _ x => opUn op (ev e x)
  | .makeInterface t x => opIface t (ev e x) (T t)
  | .typeAssert x _ t ok => match ok with
    | true => opAssert t (ev e x) (T t)
    | false => none
  | .makeFunc f first cap => opMakeFunc f (first.toList.map (ev e)) (cap.toList.map (ev e))
  | .makeMap _ r => opMakeMap newId r
  | .insert t m k v => mapPut T g (T t) (ev e m) (ev e k) (ev e v)
  | .mapUpdate t m k v => mapPut T g (T t) (ev e m) (ev e k) (ev e v)
  | .lookup t m k ok => opLookup T g (ev e m) (ev e k) ok (T t)
  | .makeSlice t l c => opMakeSlice T g newId (ev e l) (ev e c) (T t)
  | .slice t x lo hi mx => opSlice T g (ev e x) (lo.map (ev e)) (hi.map (ev e)) (mx.map (ev e)) (T t)
  | .fieldAddr t x k => opFieldAddr k (ev e x) (T t)
  | .field t x k => opField k (ev e x) (T t)
  | .indexAddr t x i => opIndexAddr T g (ev e x) (ev e i) (T t)
  | .index t x i => opIndex (ev e x) (ev e i) (T t)
  | .extract x k => opExtract k (ev e x)
  | .call c => opCall T e g newId c
  | _ => none
end ops
structure Fr where
  f : FuncId
  π : List Nat
  raw : Bool
  prot : Option (List Nat)
  rnd : Bool := false
  nt : Nat
inductive Df where
  | mark (id : Id)
  | call (f : FuncId) (args : List AV)
structure St where
  env : Env
  heap : Heap
  base : Nat
  defs : List Df
inductive Tgt where
  | fn (f : FuncId)
  | round (id : Id) (r : Lp)
inductive COut where
  | ret (v : AV)
  | pan (v : AV)
inductive E (α : Type) where
  | ok (x : α)
  | err (l : List Nat)
abbrev Oracle := Tgt → List AV → Heap → List Nat → Bool → Option (List Nat) → E (COut × Heap)
structure Fp where
  rd : Option (List Id) := some []
  wr : Option (List Id) := some []
inductive Res where
  | ok (st : St) (fp : Fp)
  | pan (v : AV) (st : St)
  | err (l : List Nat)
mutual
def idsOf : AV → List Id
  | .osl id _ _ => [id]
  | .ptr id _ => [id]
  | .eptr id _ _ => [id]
  | .yld id => [id]
  | .mp id => [id]
  | .iface _ v => idsOf v
  | .agg cs => idsL cs
  | .tup vs => idsL vs
  | .fn _ a b => idsL a ++ idsL b
  | _ => []
def idsL : List AV → List Id
  | [] => []
  | v :: vs => idsOf v ++ idsL vs
end
def deepIds (g : G) (l : List Id) : List Id := l ++ l.flatMap fun id => match g id with
  | some (.arr _ es) => es.flatMap idsL
  | _ => []
def opIds (e : Nat → AV) (op : Op) : List Id := op.operands.toList.flatMap fun y => idsOf (ev e y)
def rdOf (e : Nat → AV) (g : G) (op : Op) : List Id := match op with
  | .load .. => opIds e op
  | .store .. => opIds e op
  | .buildSlice .. => opIds e op
  | .insert .. => opIds e op
  | .mapUpdate .. => opIds e op
  | .lookup .. => opIds e op
  | .slice .. => opIds e op
  | .indexAddr .. => opIds e op
  | .call c => match c.callee with
    | .builtin .len => opIds e op
    | .builtin .clear => opIds e op
    | .builtin .append => deepIds g (opIds e op)
    | _ => []
  | _ => []
def wok (p : Option (List Nat)) (δ : Heap) : Bool :=
  match p with
  | none => true
  | some ρ => δ.all fun x => Id.under ρ x.1
def putE (e : Env) (dst : Option Tmp) (v : AV) : Env :=
  match dst with
  | some t => (t, v) :: e
  | none => e
def fPuts {α : Type} (h δ : Heap) (k : Heap → α) : α := match δ with
  | [] => k h
  | δ => fHeap0 (h.puts δ) k
def gc (ρ : List Nat) (h : Heap) : Heap := h.filter fun p => match p.1 with
  | 0 :: l => !Id.under ρ l
  | _ => true
def retRaw (ρ : List Nat) (dst : Option Tmp) (st : St) : E (COut × Heap) → Res
  | .ok (.ret v, h) => fEnv0 (putE st.env dst v) fun env => fHeap0 (gc ρ h) fun heap => .ok { st with env, heap } ⟨none, some (diffH st.heap heap)⟩
  | .ok (.pan v, h) => fHeap0 (gc ρ h) fun heap => .pan v { st with heap }
  | .err l => .err l
def retList (fr : Fr) (as : List AV) (v : AV) (h : Heap) (st : St) (env : Env) : Res :=
  match flatArr v h with
  | some o => fHeap0 (o :: st.heap) fun heap => .ok { st with env, heap } ⟨some (deepIds st.heap.get (idsL as)), some [o.1]⟩
  | none =>
    fHeap (as.flatMap (mark st.heap.get)) fun δ =>
    match wok fr.prot δ with
    | true => fHeap0 (h ++ st.heap.puts δ) fun heap => .ok { st with env, heap } ⟨some (deepIds st.heap.get (idsL as)), some (δ.map (·.1) ++ h.map (·.1))⟩
    | false => .err [2]
def retPure (fr : Fr) (as : List AV) (dst : Option Tmp) (st : St) : E (COut × Heap) → Res
  | .ok (.ret v, h) => fEnv0 (putE st.env dst v) fun env => match flat v with
    | true => .ok { st with env } ⟨some (deepIds st.heap.get (idsL as)), some []⟩
    | false => retList fr as v h st env
  | .ok (.pan v, _) => match flat v with
    | true => .pan v st
    | false => .err [3]
  | .err l => .err l
def retRo (dst : Option Tmp) (st : St) : E (COut × Heap) → Res
  | .ok (.ret v, _) => match flat v with
    | true => fEnv0 (putE st.env dst v) fun env => .ok { st with env } ⟨none, some []⟩
    | false => .err [4]
  | .ok (.pan v, _) => match flat v with
    | true => .pan v st
    | false => .err [3]
  | .err l => .err l
def thaw (g : G) (as : List AV) : List AV := as.map fun v => (frz1 g v).getD v
def callRefs (K : Oracle) (fr : Fr) (ρ : List Nat) (f : FuncId) (as : List AV) (dst : Option Tmp) (st : St) (m : Mode) : Res :=
  fAVs1 (thaw st.heap.get as) fun xs =>
  fHeap (as.flatMap (mark st.heap.get)) fun δ =>
  match m with
  | .ro => fHeap0 (st.heap.puts δ) fun heap => retRo dst st (K (.fn f) xs heap ρ true (some ρ))
  | _ =>
    match wok fr.prot δ with
    | true => fHeap0 (st.heap.puts δ) fun heap => retRaw ρ dst st (K (.fn f) xs heap ρ true fr.prot)
    | false => .err [2]
def callFn (K : Oracle) (fr : Fr) (ρ : List Nat) (f : FuncId) (as : List AV) (dst : Option Tmp) (st : St) (m : Mode) : Res :=
  match m with
  | .raw => retRaw ρ dst st (K (.fn f) as st.heap ρ true fr.prot)
  | m => match frzL st.heap.get as with
    | some xs => fAVs1 xs fun xs => retPure fr as dst st (K (.fn f) xs [] (match m with | .own => ρ | _ => []) false none)
    | none => callRefs K fr ρ f as dst st m
def callYld (K : Oracle) (fr : Fr) (ρ : List Nat) (id : Id) (as : List AV) (dst : Option Tmp) (st : St) : Res :=
  match st.heap.get id with
  | some (.loop r) => retRaw ρ dst st (K (.round id r) as st.heap ρ true fr.prot)
  | _ => .err [1]
def doCall (C : Cfg) (K : Oracle) (fr : Fr) (ρ : List Nat) (fv : AV) (args : List AV) (dst : Option Tmp) (st : St) : Res :=
  match fv with
  | .yld id => callYld K fr ρ id args dst st
  | .fn f first cap => fAVs1 (first ++ args ++ cap) fun as => callFn K fr ρ f as dst st (C.mode f)
  | _ => .err [5]
def doInvoke (C : Cfg) (K : Oracle) (fr : Fr) (ρ : List Nat) (r : AV) (m : String) (args : List AV) (dst : Option Tmp) (st : St) : Res :=
  match r with
  | .iface t v => match C.meth t m with
    | some f => doCall C K fr ρ (.fn f [v] []) args dst st
    | none => .err [7]
  | _ => .err [8]
def doPanic (st : St) (v : AV) : Res := match flat v with
  | true => match v with
    | .iface t u => .pan (.iface t u) st
    | _ => .err [9]
  | false => .err [9]
def doDefer (fr : Fr) (e : Nat → AV) (c : Call) (dst : Option Tmp) (st : St) : Res := match c.callee with
  | .value f => match ev e f, fr.rnd with
    | .fn g [] [], false => .ok { st with env := putE st.env dst .undef, defs := .call g (c.args.toList.map (ev e)) :: st.defs } ⟨none, none⟩
    | _, _ => .err [10]
  | _ => .err [10]
def doPlain (fr : Fr) (op : Op) (dst : Option Tmp) (st : St) : Option Eff → Res
  | some x => fAV x.v fun v => fHeap x.δ fun δ => match wok fr.prot δ with
    | true => fEnv0 (putE st.env dst v) fun env => fPuts st.heap δ fun heap =>
        .ok { st with env, heap } ⟨some (rdOf st.env.get st.heap.get op), some (δ.map (·.1))⟩
    | false => .err [11]
  | none => .err [12]
def doOp (C : Cfg) (K : Oracle) (fr : Fr) (ρ : List Nat) (op : Op) (dst : Option Tmp) (st : St) : Res :=
  match op with
  | .call c => match c.callee with
    | .value f => doCall C K fr ρ (ev st.env.get f) (c.args.toList.map (ev st.env.get)) dst st
    | .invoke r m => doInvoke C K fr ρ (ev st.env.get r) m (c.args.toList.map (ev st.env.get)) dst st
    | .builtin _ => doPlain fr op dst st (opCall C.T st.env.get st.heap.get ρ c)
  | .panic x => doPanic st (ev st.env.get x)
  | .defer c => doDefer fr st.env.get c dst st
  | op => doPlain fr op dst st (evalOp C.T st.env.get st.heap.get ρ op)
def guardOf (ops : Array Oper) (e : Env) (o : Oper) : Option Bool :=
  match o.guard with
  | none => some true
  | some (j, want) => match ((ops[j]?).bind (·.dst)).map e.get with
    | some (.d (.bool b)) => some (b == want)
    | some (.tup []) => some false
    | _ => none
def stepOp (C : Cfg) (K : Oracle) (fr : Fr) (ops : Array Oper) (ρ : List Nat) (o : Oper) (st : St) : Res :=
  match guardOf ops st.env o with
  | none => .err [6]
  | some false => fEnv0 (putE st.env o.dst (.tup [])) fun env => .ok { st with env } {}
  | some true => doOp C K fr ρ o.op o.dst st
def consFp (fp : Fp) : E ((Option AV × St) × List Fp) → E ((Option AV × St) × List Fp)
  | .ok (r, fps) => .ok (r, fp :: fps)
  | .err l => .err l
def runOps (C : Cfg) (K : Oracle) (fr : Fr) (ops : Array Oper) (b : Nat) (alone : Nat → Bool) : List Oper → Nat → St → E ((Option AV × St) × List Fp)
  | [], _, st => .ok ((none, st), [])
  | o :: l, i, st => fNat (b + i) fun n => match stepOp C K fr ops (n :: fr.π) o st with
    | .ok st' fp => consFp fp (runOps C K fr ops b alone l (i + 1) st')
    | .pan v st' => match alone i with
      | true => .ok ((some v, st'), [])
      | false => .err [13, i]
    | .err l => .err (i :: l)
def apart (a b : Option (List Id)) : Bool :=
  match a, b with
  | some [], _ => true
  | _, some [] => true
  | some l, some m => l.all fun x => !m.contains x
  | _, _ => false
def Fp.apart (a b : Fp) : Bool := Abs.apart a.wr b.rd && Abs.apart a.rd b.wr && Abs.apart a.wr b.wr
def pairsOk (fps : List Fp) (l : List (Nat × Nat)) : Bool :=
  l.all fun (i, j) => match fps[i]?, fps[j]? with
    | some a, some b => a.apart b
    | _, _ => true
inductive Out where
  | normal
  | exit (id : Nat)
  | ret
  | pan (v : AV)
def addId (l : List Id) (id : Id) : List Id := match l.any (Id.is id) with | true => l | false => l ++ [id]
def addIds (l : List Id) (new : List Id) : List Id := new.foldl addId l
def objIds : Option Obj → List Id
  | some (.box cs) => idsL cs
  | some (.arr _ es) => es.flatMap idsL
  | some (.map es) => es.flatMap fun p => idsOf p.2
  | some (.loop r) => r.env.flatMap fun p => idsOf p.2
  | _ => []
def reachFrom (h : Heap) : Nat → List Id → Nat → List Id
  | 0, l, _ => l
  | n + 1, l, i => match l[i]? with
    | some id => reachFrom h n (addIds l (objIds (h.get id))) (i + 1)
    | none => l
def newName (π : List Nat) : List Id → Nat → Id → Option Id
  | [], _, _ => none
  | x :: r, n, id => match Id.is x id with | true => some ((match id with | 0 :: _ => 0 | _ => 1) :: n :: π) | false => newName π r (n + 1) id
mutual
def ren (ν : Id → Option Id) : AV → AV
  | .osl id o n => match ν id with | some id => .osl id o n | none => .undef
  | .ptr id o => match ν id with | some id => .ptr id o | none => .undef
  | .eptr id i o => match ν id with | some id => .eptr id i o | none => .undef
  | .yld id => match ν id with | some id => .yld id | none => .undef
  | .mp id => match ν id with | some id => .mp id | none => .undef
  | .iface t v => .iface t (ren ν v)
  | .agg cs => .agg (renL ν cs)
  | .tup vs => .tup (renL ν vs)
  | .fn f a b => .fn f (renL ν a) (renL ν b)
  | v => v
def renL (ν : Id → Option Id) : List AV → List AV
  | [] => []
  | v :: vs => ren ν v :: renL ν vs
end
def renObj (ν : Id → Option Id) : Obj → Obj
  | .box cs => .box (renL ν cs)
  | .arr sz es => .arr sz (es.map (renL ν))
  | .map es => .map (es.map fun p => (p.1, ren ν p.2))
  | .loop r => .loop { r with env := r.env.map fun p => (p.1, ren ν p.2) }
  | o => o
def pickObjs (h : Heap) (ν : Id → Option Id) : List Id → Heap
  | [] => []
  | id :: r => match h.get id, ν id with
    | some o, some id' => (id', renObj ν o) :: pickObjs h ν r
    | _, _ => pickObjs h ν r
def fSt {α : Type} (st : St) (k : St → α) : α := fEnv st.env fun env => fHeap st.heap fun heap => fNat st.base fun base => k { env, heap, base, defs := st.defs }
def canon (C : Cfg) (fr : Fr) (b : Nat) (st : St) : St :=
  let e := (C.live fr.f b).map fun t => (t, st.env.get t)
  if fr.raw || !st.defs.isEmpty then { st with env := e }
  else
    let l := reachFrom st.heap 1000 (addIds [] (e.flatMap fun p => idsOf p.2)) 0
    let ν := newName fr.π l 0
    { env := e.map fun p => (p.1, ren ν p.2), heap := pickObjs st.heap ν l, base := l.length, defs := [] }
def aggOf : TypeDesc → Bool
  | .struct _ => true
  | .array .. => true
  | _ => false
def scalarOf : TypeDesc → TK
  | .bool => .bool
  | .int _ => .int
  | .string => .str
  | _ => .other
def flatOf (P : Program) : Nat → List Field → Option (List TK)
  | _, [] => some []
  | n, f :: fs => match (P.underlying f.type).map scalarOf, (P.info? f.type).map (·.size), flatOf P (n + 1) fs with
    | some .bool, some 1, some ks => if f.offset = n ∧ f.name ≠ "_" then some (.bool :: ks) else none
    | some .int, some 1, some ks => if f.offset = n ∧ f.name ≠ "_" then some (.int :: ks) else none
    | some .str, some 1, some ks => if f.offset = n ∧ f.name ≠ "_" then some (.str :: ks) else none
    | _, _, _ => none
def kindOf (P : Program) (t : TypeId) : TypeDesc → TK
  | .bool => .bool
  | .int _ => .int
  | .string => .str
  | .func .. => .func
  | .pointer _ => .ptr
  | .interface _ => .iface
  | .slice _ => .slice
  | .map .. => .map
  | .struct fs => match flatOf P 0 fs.toList with
    | some ks => if P.stoodInHeld t = false ∧ P.eqGuardType P.depth t = false then .flat ks else .other
    | none => .other
  | _ => .other
def fldsOf (P : Program) : TypeDesc → List (Nat × Nat × Bool)
  | .struct fs => fs.toList.map fun f => (f.offset, ((P.info? f.type).map (·.size)).getD 0, ((P.underlying f.type).map aggOf).getD false)
  | _ => []
def isStr : TypeDesc → Bool
  | .struct _ => true
  | _ => false
def fldsKnown (P : Program) : TypeDesc → Bool
  | .struct fs => fs.toList.all fun f => (P.info? f.type).isSome && (P.underlying f.type).isSome
  | _ => true
def isAggV : Value → Bool
  | .agg _ => true
  | _ => false
def elemOfD : TypeDesc → TypeId
  | .slice e => e
  | .map _ e => e
  | _ => 0
def keyOfD : TypeDesc → TypeId
  | .map k _ => k
  | _ => 0
def tiOf (P : Program) (mix : List TypeId) (t : TypeId) : Option TI :=
  match P.info? t, P.underlying t with
  | some i, some d => match i.zero with
    | some z => match Nat.ble i.bytes 65536 && fldsKnown P d && Nat.beq z.cells.size i.size && (isAggV z == aggOf d) with
     | true => some { kind := kindOf P t d, size := i.size, agg := aggOf d, str := isStr d, zero := z.cells.toList.map avConst, flds := fldsOf P d, elem := elemOfD d, key := keyOfD d, mix := mix.any (Nat.beq t) }
     | false => none
    | none => none
  | _, _ => none
def outRegion (C : Cfg) (f : FuncId) (id n base : Nat) (draw : Bool) : E ((Option AV × St) × List Fp) → E (Out × St)
  | .ok ((o, st'), fps) =>
    match !draw || pairsOk fps (C.pairs f id) with
    | true => fNat (base + n) fun base => match o with
      | none => .ok (.normal, { st' with base })
      | some v => .ok (.pan v, { st' with base })
    | false => .err [15, id]
  | .err l => .err (id :: l)
def execRegion (C : Cfg) (K : Oracle) (fr : Fr) (id : Nat) (ops : Array Oper) (draw : Bool) (st : St) : E (Out × St) :=
  outRegion C fr.f id ops.size st.base draw (runOps C K fr ops st.base (fun i => !draw || C.alone fr.f id i) ops.toList 0 st)
def outBlock (id : Nat) : E (Out × St) → E (Out × St)
  | .ok (.exit id', st') => match Nat.beq id' id with
    | true => .ok (.normal, st')
    | false => .ok (.exit id', st')
  | r => r
def outSeq (y : St → E (Out × St)) : E (Out × St) → E (Out × St)
  | .ok (.normal, st') => y st'
  | r => r
def execCond (c : AV) (x y : E (Out × St)) : E (Out × St) :=
  match c with
  | .d (.bool t) => match t with
    | true => x
    | false => y
  | _ => .err [14]
def pendOut (st : St) : Option Obj → E (Out × St)
  | some (.loop r) => match r.state with
    | .busy => .err [16]
    | _ => match r.pend with
      | none => .ok (.normal, st)
      | some .ret => .ok (.ret, st)
      | some (.exit k) => .ok (.exit k, st)
      | some _ => .err [38]
  | _ => .err [17]
def outRange (ρ ρ2 : List Nat) (id : Id) (st1 : St) : E (COut × Heap) → E (Out × St)
  | .ok (.ret _, h') => fHeap0 (gc ρ (gc ρ2 h')) fun heap => pendOut { st1 with heap } (h'.get id)
  | .ok (.pan v, h') => fHeap0 (gc ρ (gc ρ2 h')) fun heap => .ok (.pan v, { st1 with heap })
  | .err l => .err l
def callRange (K : Oracle) (prot : Option (List Nat)) (ρ : List Nat) (id : Id) (h : Heap) : AV → E (COut × Heap)
  | .fn f first cap => fAVs1 (first ++ [.yld id] ++ cap) fun as => K (.fn f) as h ρ true prot
  | _ => .err [18]
def execRange (K : Oracle) (fr : Fr) (g : Operand) (ps : Array Tmp) (asg body : Code) (st : St) : E (Out × St) :=
  match fr.rnd with
  | true => .err [37]
  | false =>
  fNat st.base fun b =>
  fHeap0 (st.heap.put (0 :: b :: fr.π) (.loop { state := .ready, pend := none, f := fr.f, env := st.env, params := ps.toList, asg := asg, body := body, nt := fr.nt })) fun h =>
  fNat (b + 1) fun b1 =>
  fNat (b + 2) fun base =>
  outRange (b :: fr.π) (b1 :: fr.π) (0 :: b :: fr.π) { st with heap := h, base, defs := .mark (0 :: b :: fr.π) :: st.defs }
    (callRange K fr.prot (b1 :: fr.π) (0 :: b :: fr.π) h (ev st.env.get g))
def exec (C : Cfg) (K : Oracle) (fr : Fr) : Nat → Nat → Code → St → E (Out × St)
  | 0, _, _, _ => .err [0]
  | n + 1, b, c, st => match c with
    | .skip => .ok (.normal, st)
    | .label _ => .ok (.normal, st)
    | .seq x y => outSeq (exec C K fr n b y) (exec C K fr n b x st)
    | .cond c x y => execCond (ev st.env.get c) (exec C K fr n b x st) (exec C K fr n b y st)
    | .block id x => outBlock id (exec C K fr n id x st)
    | .loop x => fSt (canon C fr b st) fun st => outSeq (exec C K fr n b (.loop x)) (exec C K fr n b x st)
    | .exit id => .ok (.exit id, st)
    | .ret => .ok (.ret, st)
    | .region id ops draw => execRegion C K fr id ops draw st
    | .rangeFunc g ps asg body => execRange K fr g ps asg body st
    | _ => .err [19]
def resultOne (C : Cfg) (st : St) : ResultVar → Option AV
  | .tmp t => some (st.env.get t)
  | .cell a t => (C.T t).bind fun i => loadV st.heap.get i (st.env.get a)
def mapO {α β : Type} (f : α → Option β) : List α → Option (List β)
  | [] => some []
  | x :: l => match f x, mapO f l with
    | some y, some m => some (y :: m)
    | _, _ => none
def resultsOf (C : Cfg) (fn : Func) (st : St) : Option AV :=
  match mapO (resultOne C st) fn.results.toList with
  | some [] => some (.tup [])
  | some [v] => some v
  | some vs => some (.tup vs)
  | none => none
def leave (C : Cfg) (prot : Option (List Nat)) : List Df → Option AV → Heap → E (Option AV × Heap)
  | [], p, h => .ok (p, h)
  | .mark _ :: l, p, h => leave C prot l p h
  | .call f args :: l, p, h => match C.caught f, args with
    | some t, [.ptr id off] => match p with
      | none => leave C prot l none h
      | some (.iface t' (.agg [.d (.int k n)])) => match Nat.beq t' t && wok prot [(id, .box [])] with
        | true => match h.get id with
          | some (.box cs) => match splice cs off [.d (.int k n)] with
            | some cs' => leave C prot l none (h.put id (.box cs'))
            | none => .err [20]
          | _ => .err [21]
        | false => .err [22]
      | _ => .err [23]
    | _, _ => .err [24]
def paramEnv : Nat → List AV → Env
  | _, [] => []
  | n, v :: vs => (n, v) :: paramEnv (n + 1) vs
def roundEnv (e : Env) : List Nat → List AV → Option Env
  | [], [] => some e
  | t :: ts, v :: vs => roundEnv ((t, v) :: e) ts vs
  | _, _ => none
def outFn (C : Cfg) (f : FuncId) (fn : Func) (π : List Nat) (raw : Bool) (st : St) : E (Option AV × Heap) → E (COut × Heap)
  | .ok (none, h) => match resultsOf C fn { st with heap := h } with
    | some r => fAV r fun r => match raw with
      | true => .ok (.ret r, h)
      | false => match π with
        | [] => match frz h.get r with
          | some r' => fAV r' fun r' => .ok (.ret r', [])
          | none => .err [26, f]
        | _ => .ok (.ret r, h)
    | none => .err [27, f]
  | .ok (some v, h) => .ok (.pan v, h)
  | .err l => .err (f :: l)
def endFn (C : Cfg) (prot : Option (List Nat)) (f : FuncId) (fn : Func) (π : List Nat) (raw : Bool) : E (Out × St) → E (COut × Heap)
  | .ok (o, st) => match o with
    | .ret => outFn C f fn π raw st (leave C prot st.defs none st.heap)
    | .normal => outFn C f fn π raw st (leave C prot st.defs none st.heap)
    | .pan v => outFn C f fn π raw st (leave C prot st.defs (some v) st.heap)
    | _ => .err [28, f]
  | .err l => .err (f :: l)
def runFn (P : Program) (C : Cfg) (K : Oracle) (fuel : Nat) (f : FuncId) (args : List AV) (h : Heap) (π : List Nat) (raw : Bool) (prot : Option (List Nat)) : E (COut × Heap) :=
  match P.funcs[f]? with
  | some fn => match fn.body with
    | some c => match Nat.ble args.length fn.ntmps with
      | true => endFn C prot f fn π raw (exec C K { f, π, raw, prot, nt := fn.ntmps } fuel 0 c { env := paramEnv 0 args, heap := h, base := 0, defs := [] })
      | false => .err [39, f]
    | none => .err [29, f]
  | none => .err [30, f]
def roundFin (id : Id) (h : Heap) (r : Lp) (j : Option Code) : E (COut × Heap) :=
  .ok (.ret (.d (.bool j.isNone)), h.put id (.loop { r with state := match j with | none => .ready | some _ => .done, pend := j }))
def roundOut (id : Id) (o : Out) (h : Heap) : Option Obj → E (COut × Heap)
  | some (.loop r) => match o with
    | .normal => roundFin id h r none
    | .ret => roundFin id h r (some .ret)
    | .exit k => roundFin id h r (some (.exit k))
    | .pan v => .ok (.pan v, h)
  | _ => .err [32]
def roundEnd (id : Id) : E (Out × St) → E (COut × Heap)
  | .ok (o, st) => match st.defs with
    | [] => roundOut id o st.heap (st.heap.get id)
    | _ => .err [31]
  | .err l => .err (99 :: l)
def roundBody (C : Cfg) (K : Oracle) (fuel : Nat) (id : Id) (r0 : Lp) (π : List Nat) (prot : Option (List Nat)) (st : St) : Option Obj → E (COut × Heap)
  | some (.loop r) => match r.state with
    | .ready => fHeap0 (st.heap.put id (.loop { r with state := .busy })) fun heap =>
      roundEnd id (exec C K { f := r0.f, π, raw := true, prot, rnd := true, nt := r0.nt } fuel 0 r0.body { st with heap })
    | _ => .err [36]
  | _ => .err [33]
def roundMid (C : Cfg) (K : Oracle) (fuel : Nat) (id : Id) (r0 : Lp) (π : List Nat) (prot : Option (List Nat)) : E (Out × St) → E (COut × Heap)
  | .ok (.normal, st) => match st.defs, wok prot [(id, .box [])] with
    | [], true => roundBody C K fuel id r0 π prot st (st.heap.get id)
    | _, _ => .err [40]
  | _ => .err [34]
def runRound (C : Cfg) (K : Oracle) (fuel : Nat) (id : Id) (r : Lp) (args : List AV) (h : Heap) (π : List Nat) (prot : Option (List Nat)) : E (COut × Heap) :=
  match roundEnv r.env r.params args with
  | some e => roundMid C K fuel id r π prot (exec C K { f := r.f, π, raw := true, prot, rnd := true, nt := r.nt } fuel 0 r.asg { env := e, heap := h, base := 0, defs := [] })
  | none => .err [35]
def callN (P : Program) (C : Cfg) (m : Nat) : Nat → Oracle
  | 0 => fun _ _ _ _ _ _ => .err [25]
  | n + 1 => fun t args h π raw prot => match t with
    | .fn f => match C.good f with
      | true => runFn P C (callN P C m n) m f args h π raw prot
      | false => .err [41, f]
    | .round id r => match raw with
      | true => runRound C (callN P C m n) m id r args h π prot
      | false => .err [42]
end Go.Abs
end
section
namespace Go.Abs
section
variable {α : Type}
@[simp] theorem fNat_eq (n : Nat) (k : Nat → α) : fNat n k = k n := by cases n <;> rfl
@[simp] theorem fBool_eq (b : Bool) (k : Bool → α) : fBool b k = k b := by cases b <;> rfl
@[simp] theorem fInt_eq (n : Int) (k : Int → α) : fInt n k = k n := by cases n <;> simp [fInt]
@[simp] theorem fKind_eq (x : IntKind) (k : IntKind → α) : fKind x k = k x := by cases x <;> rfl
@[simp] theorem fNats_eq (l : List Nat) (k : List Nat → α) : fNats l k = k l := by
  induction l generalizing k with
  | nil => rfl
  | cons n l ih => simp [fNats, ih]
@[simp] theorem fDat_eq (x : Dat) (k : Dat → α) : fDat x k = k x := by cases x <;> simp [fDat]
@[simp] theorem fDats_eq (l : List Dat) (k : List Dat → α) : fDats l k = k l := by
  induction l generalizing k with
  | nil => rfl
  | cons n l ih => simp [fDats, ih]
@[simp] theorem fDatss_eq (l : List (List Dat)) (k : List (List Dat) → α) : fDatss l k = k l := by
  induction l generalizing k with
  | nil => rfl
  | cons n l ih => simp [fDatss, ih]
@[simp] theorem fDat'_eq (x : Dat) (k : Dat → α) : fDat' x k = k x := by cases x <;> simp [fDat', fDat]
@[simp] theorem fAV0_eq (x : AV) (k : AV → α) : fAV0 x k = k x := by cases x <;> simp [fAV0]
@[simp] theorem fAVs0_eq (l : List AV) (k : List AV → α) : fAVs0 l k = k l := by
  induction l generalizing k with
  | nil => rfl
  | cons n l ih => simp [fAVs0, ih]
@[simp] theorem fAV1_eq (x : AV) (k : AV → α) : fAV1 x k = k x := by
  unfold fAV1;split <;> simp
@[simp] theorem fAVs1_eq (l : List AV) (k : List AV → α) : fAVs1 l k = k l := by
  induction l generalizing k with
  | nil => rfl
  | cons n l ih => simp [fAVs1, ih]
@[simp] theorem fAV_eq (x : AV) (k : AV → α) : fAV x k = k x := by
  unfold fAV;split <;> simp
@[simp] theorem fAVss_eq (l : List (List AV)) (k : List (List AV) → α) : fAVss l k = k l := by
  induction l generalizing k with
  | nil => rfl
  | cons n l ih => simp [fAVss, ih]
@[simp] theorem fEntries_eq (l : List (Dat × AV)) (k : List (Dat × AV) → α) : fEntries l k = k l := by
  induction l generalizing k with
  | nil => rfl
  | cons n l ih => obtain ⟨x, v⟩ := n; simp [fEntries, ih]
@[simp] theorem fObj_eq (x : Obj) (k : Obj → α) : fObj x k = k x := by cases x <;> simp [fObj]
@[simp] theorem fHeap_eq (l : Heap) (k : Heap → α) : fHeap l k = k l := by
  induction l generalizing k with
  | nil => rfl
  | cons n l ih => obtain ⟨x, v⟩ := n; simp [fHeap, ih]
@[simp] theorem fHeap0_eq (l : Heap) (k : Heap → α) : fHeap0 l k = k l := by
  induction l generalizing k with
  | nil => rfl
  | cons n l ih => obtain ⟨x, v⟩ := n; simp [fHeap0, ih]
@[simp] theorem fEnv_eq (l : Env) (k : Env → α) : fEnv l k = k l := by
  induction l generalizing k with
  | nil => rfl
  | cons n l ih => obtain ⟨x, v⟩ := n; simp [fEnv, ih]
@[simp] theorem fEnv0_eq (l : Env) (k : Env → α) : fEnv0 l k = k l := by cases l <;> rfl
@[simp] theorem fSt_eq (st : St) (k : St → α) : fSt st k = k st := by simp [fSt]
@[simp] theorem fPuts_eq (h δ : Heap) (k : Heap → α) : fPuts h δ k = k (h.puts δ) := by
  cases δ <;> simp [fPuts, Heap.puts]
end
theorem Id.is_iff (a b : Id) : Id.is a b = true ↔ a = b := by
  induction a generalizing b with
  | nil => cases b <;> simp [Id.is]
  | cons n l ih =>
    cases b with
    | nil => simp [Id.is]
    | cons m k =>
      simp only [Id.is];split
      · rename_i h;have : n = m := Nat.eq_of_beq_eq_true h;simp [ih, this]
      · rename_i h;have : n ≠ m := fun h' => by subst h'; simp at h
        simp [this]
theorem Id.is_false_iff (a b : Id) : Id.is a b = false ↔ a ≠ b := by
  rw [← Bool.not_eq_true, Id.is_iff]
@[simp] theorem Id.is_self (a : Id) : Id.is a a = true := (Id.is_iff a a).2 rfl
theorem Id.under_iff (ρ a : Id) : Id.under ρ a = true ↔ ρ <:+ a := by
  induction a with
  | nil => simp [Id.under, Id.is_iff]
  | cons n l ih =>
    simp only [Id.under];split
    · rename_i h;rw [Id.is_iff] at h;subst h;simp
    · rename_i h;rw [Id.is_false_iff] at h;rw [ih, List.suffix_cons_iff];simp [h]
@[simp] theorem Heap.get_nil (id : Id) : Heap.get [] id = none := rfl
theorem Heap.get_cons (k : Id) (o : Obj) (h : Heap) (id : Id) : Heap.get ((k, o) :: h) id = if k = id then some o else h.get id := by
  simp only [Heap.get];split
  · rename_i h'; rw [Id.is_iff] at h'; simp [h']
  · rename_i h'; rw [Id.is_false_iff] at h'; simp [h']
theorem Heap.get_put (h : Heap) (id : Id) (o : Obj) (id' : Id) : (h.put id o).get id' = if id = id' then some o else h.get id' := by
  induction h with
  | nil => simp [Heap.put, Heap.get_cons]
  | cons p h ih =>
    obtain ⟨k, x⟩ := p;simp only [Heap.put];split
    · rename_i h'; rw [Id.is_iff] at h'; subst h'; simp [Heap.get_cons]; split <;> simp_all
    · rename_i h'; rw [Id.is_false_iff] at h';simp only [Heap.get_cons, ih];split
      · rename_i h1; subst h1; simp [Ne.symm h']
      · rfl
theorem Heap.get_append (h h' : Heap) (id : Id) : Heap.get (h ++ h') id = (h.get id).or (h'.get id) := by
  induction h with
  | nil => simp
  | cons p h ih =>
    obtain ⟨k, x⟩ := p;simp only [List.cons_append, Heap.get_cons, ih];split <;> simp
theorem Env.get_cons (k : Nat) (v : AV) (e : Env) (t : Nat) : Env.get ((k, v) :: e) t = if k = t then v else e.get t := by
  simp only [Env.get];split
  · rename_i h; have := Nat.eq_of_beq_eq_true h; simp [this]
  · rename_i h;have : k ≠ t := fun h' => by subst h'; simp at h
    simp [this]
theorem Heap.puts_nil (h : Heap) : h.puts [] = h := rfl
theorem Heap.puts_cons (h : Heap) (p : Id × Obj) (δ : Heap) : h.puts (p :: δ) = (h.put p.1 p.2).puts δ := rfl
theorem Heap.puts_append (h δ δ' : Heap) : h.puts (δ ++ δ') = (h.puts δ).puts δ' := by simp [Heap.puts, List.foldl_append]
end Go.Abs
end
section
namespace Go.Abs
variable {A : Nat → Prop}
structure Blk where
  b : Nat
  sz : Nat
  n : Nat
abbrev Beta := Id → Option Blk
inductive DR (w : World) (M : Nat → Prop) : Dat → Value → Prop
  | int (k n) : DR w M (.int k n) (.int k n)
  | bool (b) : DR w M (.bool b) (.bool b)
  | str (s) : DR w M (.str s) (.string s)
  | nilp : DR w M .nilp (.pointer none)
  | nilf : DR w M .nilf .nilFunc
  | nili : DR w M .nili .nilIface
  | nilm : DR w M .nilm (.map none)
  | lst0 (a cap) : DR w M (.lst []) (.slice a 0 cap)
  | lst (es : List (List Dat)) (b off cap sz : Nat) (c : Array Value) (elem : TypeId) (fr : Nat × Nat) :
      w.heap[b]? = some (.cells c elem fr) → ¬ M b → (∀ e ∈ es, e.length = sz) → off + es.length * sz ≤ c.size →
      (∀ i x v, es.flatten[i]? = some x → c[off + i]? = some v → DR w M x v) → es.length ≤ cap → DR w M (.lst es) (.slice (some ⟨b, off, none⟩) es.length cap)
inductive VR (β : Beta) (w : World) (M : Nat → Prop) : AV → Value → Prop
  | d {x v} : DR w M x v → VR β w M (.d x) v
  | nils : VR β w M .nils (.slice none 0 0)
  | emp (a) : VR β w M .emp (.slice a 0 0)
  | osl (id off len k a cap) : β id = some k → off * k.sz + cap * k.sz = k.n → len ≤ cap → (a = some ⟨k.b, off * k.sz, none⟩ ∨ cap = 0) →
      VR β w M (.osl id off len) (.slice a len cap)
  | ptr (id off k) : β id = some k → VR β w M (.ptr id off) (.pointer (some ⟨k.b, off, none⟩))
  | eptr (id i off k) : β id = some k → VR β w M (.eptr id i off) (.pointer (some ⟨k.b, i * k.sz + off, none⟩))
  | iptr (cs b off c elem fr) : w.heap[b]? = some (.cells c elem fr) → ¬ M b → off + cs.length ≤ c.size →
      (∀ i x v, cs[i]? = some x → c[off + i]? = some v → DR w M x v) → VR β w M (.iptr cs) (.pointer (some ⟨b, off, none⟩))
  | fn (f) (a b : List AV) (a' b' : Array Value) : a.length = a'.size → b.length = b'.size → (∀ (i : Nat) (x : AV) (v : Value), a[i]? = some x → a'[i]? = some v → VR β w M x v) →
      (∀ (i : Nat) (x : AV) (v : Value), b[i]? = some x → b'[i]? = some v → VR β w M x v) → VR β w M (.fn f a b) (.func (.func f) a' b')
  | yld (id k) : β id = some k → VR β w M (.yld id) (.func (.yield k.b) #[] #[])
  | mp (id k) : β id = some k → VR β w M (.mp id) (.map (some k.b))
  | iface (t v u) : VR β w M v u → VR β w M (.iface t v) (.iface t u)
  | agg (cs : List AV) (c : Array Value) : cs.length = c.size → (∀ (i : Nat) (x : AV) (v : Value), cs[i]? = some x → c[i]? = some v → VR β w M x v) → VR β w M (.agg cs) (.agg c)
  | tup (cs : List AV) (c : Array Value) : cs.length = c.size → (∀ (i : Nat) (x : AV) (v : Value), cs[i]? = some x → c[i]? = some v → VR β w M x v) → VR β w M (.tup cs) (.tuple c)
  | undef (v) : VR β w M .undef v
def VRs (β : Beta) (w : World) (M : Nat → Prop) (cs : List AV) (c : Array Value) : Prop :=
  cs.length = c.size ∧ ∀ (i : Nat) (x : AV) (v : Value), cs[i]? = some x → c[i]? = some v → VR β w M x v
def Obj.mut : Obj → Bool
  | .fro .. => false
  | _ => true
def MS (A : Nat → Prop) (β : Beta) (h : Heap) (b : Nat) : Prop := A b ∨ ∃ id o k, h.get id = some o ∧ o.mut = true ∧ β id = some k ∧ k.b = b
def EnvR (β : Beta) (w : World) (M : Nat → Prop) (e : Nat → AV) (f : Nat → Value) : Prop := ∀ t, VR β w M (e t) (f t)
def ObjR (β : Beta) (w : World) (M : Nat → Prop) (k : Blk) : Obj → Prop
  | .box cs => ∃ c elem, w.heap[k.b]? = some (.cells c elem (0, 0)) ∧ VRs β w M cs c
  | .darr sz es => ∃ c elem, w.heap[k.b]? = some (.cells c elem (0, 0)) ∧ sz = k.sz ∧ 0 < sz ∧ c.size = k.n ∧ (∀ e ∈ es, e.length = sz) ∧ es.length * sz ≤ c.size ∧
      ∀ (i : Nat) (x : Dat) (v : Value), es.flatten[i]? = some x → c[i]? = some v → DR w M x v
  | .fro sz es => es = [] ∨ (¬ M k.b ∧ ∃ c elem fr, w.heap[k.b]? = some (.cells c elem fr) ∧ sz = k.sz ∧ 0 < sz ∧ c.size = k.n ∧ (∀ e ∈ es, e.length = sz) ∧ es.length * sz ≤ c.size ∧
      ∀ (i : Nat) (x : Dat) (v : Value), es.flatten[i]? = some x → c[i]? = some v → DR w M x v)
  | .arr sz es => ∃ c elem, w.heap[k.b]? = some (.cells c elem (0, 0)) ∧ sz = k.sz ∧ 0 < sz ∧ c.size = k.n ∧ (∀ e ∈ es, e.length = sz) ∧ es.length * sz ≤ c.size ∧
      ∀ (i : Nat) (x : AV) (v : Value), es.flatten[i]? = some x → c[i]? = some v → VR β w M x v
  | .map es => ∃ entries clock, w.heap[k.b]? = some (.map entries clock) ∧ es.length = entries.size ∧
      ∀ (i : Nat) p e, es[i]? = some p → entries[i]? = some e → DR w M p.1 e.key ∧ VR β w M p.2 e.val
  | .loop r => ∃ l : Loop, w.heap[k.b]? = some (.loop l) ∧ l.state = r.state ∧ l.pending = r.pend ∧ l.fn = r.f ∧ l.params.toList = r.params ∧ l.assign = r.asg ∧ l.body = r.body ∧ l.tmps.size = r.nt ∧
      EnvR β w M r.env.get fun t => l.tmps.getD t Go.undef
structure HR (A : Nat → Prop) (β : Beta) (w : World) (h : Heap) : Prop where
  obj : ∀ id o, h.get id = some o → ∃ k, β id = some k ∧ ObjR β w (MS A β h) k o
  inj : ∀ id id' o o' k k', h.get id = some o → h.get id' = some o' → o.mut = true → o'.mut = true → β id = some k → β id' = some k' → k.b = k'.b → id = id'
  bnd : ∀ id k, β id = some k → k.b < w.heap.size
  out : ∀ id o k, h.get id = some o → o.mut = true → β id = some k → ¬ A k.b
  abnd : ∀ b, A b → b < w.heap.size
structure Pres (A M : Nat → Prop) (w : World) (M' : Nat → Prop) (w' : World) : Prop where
  keep : ∀ b, b < w.heap.size → ¬ M b ∨ A b → w'.heap[b]? = w.heap[b]?
  size : w.heap.size ≤ w'.heap.size
  sub : ∀ b, M' b → M b ∨ w.heap.size ≤ b
  io : w'.os = w.os ∧ w'.output = w.output := by exact ⟨rfl, rfl⟩
theorem Pres.refl (M : Nat → Prop) (w : World) : Pres A M w M w := ⟨fun _ _ _ => rfl, Nat.le_refl _, fun _ h => .inl h, rfl, rfl⟩
theorem Pres.trans {M M' M'' : Nat → Prop} {w w' w'' : World} (h : Pres A M w M' w') (h' : Pres A M' w' M'' w'') : Pres A M w M'' w'' where
  keep b hb hm := by
    rw [h'.keep b (Nat.lt_of_lt_of_le hb h.size) (hm.imp (fun hm hm' => (h.sub b hm').elim hm (fun h => by omega)) (fun h => h)), h.keep b hb hm]
  size := Nat.le_trans h.size h'.size
  sub b hb := by
    rcases h'.sub b hb with h1 | h1
    · exact h.sub b h1
    · exact .inr (Nat.le_trans h.size h1)
  io := ⟨h'.io.1.trans h.io.1, h'.io.2.trans h.io.2⟩
theorem Pres.sub' {M M' : Nat → Prop} {w w' : World} (h : Pres A M w M' w') {b : Nat} (hb : b < w.heap.size) (hm : ¬ M b) : ¬ M' b :=
  fun hm' => (h.sub b hm').elim hm (fun h => by omega)
def Le (β β' : Beta) : Prop := ∀ id k, β id = some k → β' id = some k
theorem Le.refl (β : Beta) : Le β β := fun _ _ h => h
theorem Le.trans {β β' β'' : Beta} (h : Le β β') (h' : Le β' β'') : Le β β'' := fun id k x => h' id k (h id k x)
theorem lt_of_get {w : World} {b : Nat} {o : Go.Obj} (h : w.heap[b]? = some o) : b < w.heap.size := (Array.getElem?_eq_some_iff.1 h).1
theorem DR.mono {w w' : World} {M M' : Nat → Prop} (hp : Pres A M w M' w') {x : Dat} {v : Value} (h : DR w M x v) : DR w' M' x v := by
  induction h with
  | int k n => exact .int k n
  | bool b => exact .bool b
  | str s => exact .str s
  | nilp => exact .nilp
  | nilf => exact .nilf
  | nili => exact .nili
  | nilm => exact .nilm
  | lst0 a cap => exact .lst0 a cap
  | lst es b off cap sz c elem fr hb hm he hl _ hcap ih =>
    exact .lst es b off cap sz c elem fr (by rw [hp.keep b (lt_of_get hb) (.inl hm)]; exact hb) (hp.sub' (lt_of_get hb) hm) he hl ih hcap
theorem VR.mono {β β' : Beta} {w w' : World} {M M' : Nat → Prop} (hβ : Le β β') (hp : Pres A M w M' w') {x : AV} {v : Value} (h : VR β w M x v) : VR β' w' M' x v := by
  induction h with
  | d h => exact .d (h.mono hp)
  | nils => exact .nils
  | emp a => exact .emp a
  | osl id off len k a cap hk hn hl ha => exact .osl id off len k a cap (hβ _ _ hk) hn hl ha
  | ptr id off k hk => exact .ptr id off k (hβ _ _ hk)
  | eptr id i off k hk => exact .eptr id i off k (hβ _ _ hk)
  | iptr cs b off c elem fr hb hm hl hd =>
    exact .iptr cs b off c elem fr (by rw [hp.keep b (lt_of_get hb) (.inl hm)]; exact hb) (hp.sub' (lt_of_get hb) hm) hl fun i x v h1 h2 => (hd i x v h1 h2).mono hp
  | fn f a b a' b' h1 h2 _ _ ih1 ih2 => exact .fn f a b a' b' h1 h2 ih1 ih2
  | yld id k hk => exact .yld id k (hβ _ _ hk)
  | mp id k hk => exact .mp id k (hβ _ _ hk)
  | iface t v u _ ih => exact .iface t v u ih
  | agg cs c h1 _ ih => exact .agg cs c h1 ih
  | tup cs c h1 _ ih => exact .tup cs c h1 ih
  | undef v => exact .undef v
theorem VRs.mono {β β' : Beta} {w w' : World} {M M' : Nat → Prop} (hβ : Le β β') (hp : Pres A M w M' w') {x : List AV} {v : Array Value} (h : VRs β w M x v) : VRs β' w' M' x v :=
  ⟨h.1, fun i x v h1 h2 => (h.2 i x v h1 h2).mono hβ hp⟩
theorem EnvR.mono {β β' : Beta} {w w' : World} {M M' : Nat → Prop} (hβ : Le β β') (hp : Pres A M w M' w') {e : Nat → AV} {f : Nat → Value} (h : EnvR β w M e f) : EnvR β' w' M' e f :=
  fun t => (h t).mono hβ hp
theorem ObjR.mono {β β' : Beta} {w w' : World} {M M' : Nat → Prop} (hβ : Le β β') (hp : Pres A M w M' w') {k : Blk} {o : Obj} (h : ObjR β w M k o) (hlt : k.b < w.heap.size)
    (hk : w'.heap[k.b]? = w.heap[k.b]?) : ObjR β' w' M' k o := by
  cases o with
  | box cs => obtain ⟨c, elem, h1, h2⟩ := h; exact ⟨c, elem, hk ▸ h1, h2.mono hβ hp⟩
  | darr sz es => obtain ⟨c, elem, h1, h2, h3, h4, h5, h6, h7⟩ := h; exact ⟨c, elem, hk ▸ h1, h2, h3, h4, h5, h6, fun i x v a b => (h7 i x v a b).mono hp⟩
  | fro sz es =>
    rcases h with h | ⟨hm, c, elem, fr, h1, h2, h3, h4, h5, h6, h7⟩
    · exact .inl h
    · exact .inr ⟨hp.sub' hlt hm, c, elem, fr, hk ▸ h1, h2, h3, h4, h5, h6, fun i x v a b => (h7 i x v a b).mono hp⟩
  | arr sz es => obtain ⟨c, elem, h1, h2, h3, h4, h5, h6, h7⟩ := h; exact ⟨c, elem, hk ▸ h1, h2, h3, h4, h5, h6, fun i x v a b => (h7 i x v a b).mono hβ hp⟩
  | map es => obtain ⟨en, cl, h1, h2, h3⟩ := h; exact ⟨en, cl, hk ▸ h1, h2, fun i p e a b => ⟨(h3 i p e a b).1.mono hp, (h3 i p e a b).2.mono hβ hp⟩⟩
  | loop r => obtain ⟨l, h1, h2, h3, h4, h5, h6, h7, h9, h8⟩ := h; exact ⟨l, hk ▸ h1, h2, h3, h4, h5, h6, h7, h9, h8.mono hβ hp⟩
theorem HR.step {β β' : Beta} {w w' : World} {h h' : Heap} (H : HR A β w h) (hβ : Le β β') (hp : Pres A (MS A β h) w (MS A β' h') w')
    (hobj : ∀ id o, h'.get id = some o → (h.get id = some o ∧ ∀ k, β id = some k → w'.heap[k.b]? = w.heap[k.b]?) ∨ ∃ k, β' id = some k ∧ ObjR β' w' (MS A β' h') k o)
    (hinj : ∀ id id' o o' k k', h'.get id = some o → h'.get id' = some o' → o.mut = true → o'.mut = true → β' id = some k → β' id' = some k' → k.b = k'.b → id = id')
    (hbnd : ∀ id k, β' id = some k → k.b < w'.heap.size) (hout : ∀ id o k, h'.get id = some o → o.mut = true → β' id = some k → ¬ A k.b) : HR A β' w' h' where
  obj id o ho := by
    rcases hobj id o ho with ⟨h1, h2⟩ | h1
    · obtain ⟨k, hk, hr⟩ := H.obj id o h1;exact ⟨k, hβ _ _ hk, hr.mono hβ hp (H.bnd id k hk) (h2 k hk)⟩
    · exact h1
  inj := hinj
  bnd := hbnd
  out := hout
  abnd b hb := Nat.lt_of_lt_of_le (H.abnd b hb) hp.size
def Beta.put (β : Beta) (id : Id) (k : Blk) : Beta := fun x => if x = id then some k else β x
theorem le_put {β : Beta} {id : Id} {k : Blk} (h : β id = none) : Le β (β.put id k) := fun x k' hx => by
  unfold Beta.put;split
  · rename_i e; subst e; rw [h] at hx; cases hx
  · exact hx
@[simp] theorem put_self (β : Beta) (id : Id) (k : Blk) : β.put id k id = some k := by simp [Beta.put]
theorem put_other (β : Beta) {id x : Id} (k : Blk) (h : x ≠ id) : β.put id k x = β x := by simp [Beta.put, h]
def World.add (w : World) (x : Go.Obj) : World := { w with heap := w.heap.push x }
theorem add_get (w : World) (x : Go.Obj) : (World.add w x).heap[w.heap.size]? = some x := by simp [World.add]
theorem add_old (w : World) (x : Go.Obj) {b : Nat} (h : b < w.heap.size) : (World.add w x).heap[b]? = w.heap[b]? := by
  simp [World.add, Array.getElem?_push, Nat.ne_of_lt h]
theorem add_size (w : World) (x : Go.Obj) : (World.add w x).heap.size = w.heap.size + 1 := by simp [World.add]
theorem MS_lt {β : Beta} {w : World} {h : Heap} (H : HR A β w h) {b : Nat} (hb : MS A β h b) : b < w.heap.size := by
  rcases hb with hb | ⟨id, o, k, _, _, hk, rfl⟩
  · exact H.abnd b hb
  · exact H.bnd id k hk
theorem pres_add {β : Beta} {w : World} {h : Heap} (H : HR A β w h) {id : Id} (x : Go.Obj) {o : Obj} {k : Blk} (hk : k.b = w.heap.size) :
    Pres A (MS A β h) w (MS A (β.put id k) (h.put id o)) (World.add w x) where
  keep b hb _ := add_old w x hb
  size := by rw [add_size]; omega
  sub b hb := by
    rcases hb with hb | ⟨id', o', k', ho, hm, hk', rfl⟩
    · exact .inl (.inl hb)
    by_cases e : id' = id
    · subst e;simp at hk'; subst hk';exact .inr (by omega)
    · rw [put_other β k e] at hk';rw [Heap.get_put, if_neg (Ne.symm e)] at ho;exact .inl (.inr ⟨id', o', k', ho, hm, hk', rfl⟩)
theorem HR.add {β : Beta} {w : World} {h : Heap} (H : HR A β w h) {id : Id} (hid : β id = none) {x : Go.Obj} {o : Obj} {k : Blk} (hk : k.b = w.heap.size)
    (ho : ObjR (β.put id k) (World.add w x) (MS A (β.put id k) (h.put id o)) k o) : HR A (β.put id k) (World.add w x) (h.put id o) := by
  refine H.step (le_put hid) (pres_add H x hk) ?_ ?_ ?_ ?_
  · intro id' o' hg;rw [Heap.get_put] at hg;split at hg
    · rename_i e; subst e; cases hg; exact .inr ⟨k, by simp, ho⟩
    · exact .inl ⟨hg, fun k' hk' => add_old w x (H.bnd _ _ hk')⟩
  · intro a b oa ob ka kb ha hb hma hmb hka hkb e;rw [Heap.get_put] at ha hb;by_cases ea : a = id <;> by_cases eb : b = id
    · rw [ea, eb]
    · subst ea;simp at hka; subst hka;rw [put_other β _ eb] at hkb;have := H.bnd _ _ hkb;omega
    · subst eb;simp at hkb; subst hkb;rw [put_other β _ ea] at hka;have := H.bnd _ _ hka;omega
    · rw [put_other β _ ea] at hka;rw [put_other β _ eb] at hkb;rw [if_neg (Ne.symm ea)] at ha;rw [if_neg (Ne.symm eb)] at hb;exact H.inj a b oa ob ka kb ha hb hma hmb hka hkb e
  · intro a ka hka;rw [add_size];by_cases ea : a = id
    · subst ea; simp at hka; subst hka; omega
    · rw [put_other β _ ea] at hka;have := H.bnd _ _ hka;omega
  · intro a oa ka ha hma hka hA;rw [Heap.get_put] at ha;by_cases ea : a = id
    · subst ea; simp at hka; subst hka;have := H.abnd _ hA;omega
    · rw [put_other β _ ea] at hka;rw [if_neg (Ne.symm ea)] at ha;exact H.out a oa ka ha hma hka hA
def World.upd (w : World) (b : Nat) (x : Go.Obj) : World := { w with heap := w.heap.setIfInBounds b x }
theorem upd_get {w : World} {b : Nat} (x : Go.Obj) (h : b < w.heap.size) : (World.upd w b x).heap[b]? = some x := by simp [World.upd, h]
theorem upd_old {w : World} {b b' : Nat} (x : Go.Obj) (h : b' ≠ b) : (World.upd w b x).heap[b']? = w.heap[b']? := by
  simp [World.upd, Array.getElem?_setIfInBounds, Ne.symm h]
theorem upd_size (w : World) (b : Nat) (x : Go.Obj) : (World.upd w b x).heap.size = w.heap.size := by simp [World.upd]
theorem MS_put_of {β : Beta} {h : Heap} {id : Id} {o o' : Obj} (ho : h.get id = some o) (hm : o.mut = true) {b : Nat} (hb : MS A β (h.put id o') b) : MS A β h b := by
  rcases hb with hb | ⟨id', o1, k, h1, h2, h3, rfl⟩
  · exact .inl hb
  rw [Heap.get_put] at h1;split at h1
  · rename_i e; subst e; exact .inr ⟨id, o, k, ho, hm, h3, rfl⟩
  · exact .inr ⟨id', o1, k, h1, h2, h3, rfl⟩
theorem pres_upd {β : Beta} {w : World} {h : Heap} (H : HR A β w h) {id : Id} {k : Blk} {o o' : Obj} (ho : h.get id = some o) (hm : o.mut = true) (hk : β id = some k) (x : Go.Obj) :
    Pres A (MS A β h) w (MS A β (h.put id o')) (World.upd w k.b x) where
  keep b _ hb := upd_old x fun e => hb.elim (fun hb => hb (.inr ⟨id, o, k, ho, hm, hk, e.symm⟩)) (fun hb => H.out id o k ho hm hk (e ▸ hb))
  size := by rw [upd_size]; omega
  sub b hb := .inl (MS_put_of ho hm hb)
theorem HR.upd {β : Beta} {w : World} {h : Heap} (H : HR A β w h) {id : Id} {k : Blk} {o o' : Obj} (ho : h.get id = some o) (hm : o.mut = true) (hk : β id = some k) {x : Go.Obj}
    (hr : ObjR β (World.upd w k.b x) (MS A β (h.put id o')) k o')
    (hfro : ∀ id' sz es k', h.get id' = some (.fro sz es) → β id' = some k' → k'.b = k.b → es = []) : HR A β (World.upd w k.b x) (h.put id o') := by
  refine H.step (.refl β) (pres_upd H ho hm hk x) ?_ ?_ ?_ ?_
  · intro id' o1 hg;rw [Heap.get_put] at hg;split at hg
    · rename_i e; subst e; cases hg; exact .inr ⟨k, hk, hr⟩
    · rename_i e;obtain ⟨k', hk', hr'⟩ := H.obj id' o1 hg;by_cases eb : k'.b = k.b
      · cases hm' : o1.mut with
        | true => exact absurd (H.inj id id' o o1 k k' ho hg hm hm' hk hk' eb.symm) e
        | false =>
          cases o1 with
          | fro sz es =>
            have := hfro id' sz es k' hg hk' eb;exact .inr ⟨k', hk', .inl this⟩
          | _ => simp [Obj.mut] at hm'
      · exact .inl ⟨hg, fun k2 hk2 => by rw [hk'] at hk2; cases hk2; exact upd_old x eb⟩
  · intro a b oa ob ka kb ha hb hma hmb hka hkb e;rw [Heap.get_put] at ha hb;have get' : ∀ {y : Id} {oy : Obj}, (if id = y then some o' else h.get y) = some oy → oy.mut = true → ∃ oz, h.get y = some oz ∧ oz.mut = true := by
      intro y oy hy hmy;split at hy
      · rename_i e; subst e; exact ⟨o, ho, hm⟩
      · exact ⟨oy, hy, hmy⟩
    obtain ⟨oa', h1, h2⟩ := get' ha hma;obtain ⟨ob', h3, h4⟩ := get' hb hmb;exact H.inj a b oa' ob' ka kb h1 h3 h2 h4 hka hkb e
  · intro a ka hka;rw [upd_size];exact H.bnd a ka hka
  · intro a oa ka ha hma hka;rw [Heap.get_put] at ha;split at ha
    · rename_i e; subst e; exact H.out _ _ _ ho hm hka
    · exact H.out a oa ka ha hma hka
theorem HR.fro {β : Beta} {w : World} {h : Heap} (H : HR A β w h) {id id' : Id} {k k' : Blk} {o : Obj} (ho : h.get id = some o) (hm : o.mut = true) (hk : β id = some k) {sz : Nat} {es : List (List Dat)}
    (hf : h.get id' = some (.fro sz es)) (hk' : β id' = some k') (e : k'.b = k.b) : es = [] := by
  obtain ⟨k2, hk2, hr⟩ := H.obj id' _ hf;rw [hk'] at hk2; cases hk2;rcases hr with h1 | ⟨h1, _⟩
  · exact h1
  · exact absurd (.inr ⟨id, o, k, ho, hm, hk, e.symm⟩) h1
theorem HR.upd' {β : Beta} {w : World} {h : Heap} (H : HR A β w h) {id : Id} {k : Blk} {o o' : Obj} (ho : h.get id = some o) (hm : o.mut = true) (hk : β id = some k) {x : Go.Obj}
    (hr : ObjR β (World.upd w k.b x) (MS A β (h.put id o')) k o') : HR A β (World.upd w k.b x) (h.put id o') :=
  H.upd ho hm hk hr fun _ _ _ _ h1 h2 h3 => H.fro ho hm hk h1 h2 h3
theorem pres_fro {β : Beta} {w : World} {h : Heap} {id : Id} {o o' : Obj} (ho : h.get id = some o) (hm : o.mut = true) :
    Pres A (MS A β h) w (MS A β (h.put id o')) w := ⟨fun _ _ _ => rfl, Nat.le_refl _, fun _ hb => .inl (MS_put_of ho hm hb), rfl, rfl⟩
theorem HR.kill {β : Beta} {w : World} {h : Heap} (H : HR A β w h) {id : Id} {o : Obj} (ho : h.get id = some o) (hm : o.mut = true) : HR A β w (h.put id (.fro 0 [])) := by
  obtain ⟨k, hk, _⟩ := H.obj id _ ho;refine H.step (.refl β) (pres_fro ho hm) ?_ ?_ H.bnd ?_
  · intro id' o1 hg;rw [Heap.get_put] at hg;split at hg
    · rename_i e; subst e; cases hg; exact .inr ⟨k, hk, .inl rfl⟩
    · exact .inl ⟨hg, fun _ _ => rfl⟩
  · intro a b oa ob ka kb ha hb hma hmb hka hkb e;rw [Heap.get_put] at ha hb;have get' : ∀ {y : Id} {oy : Obj}, (if id = y then some (Obj.fro 0 []) else h.get y) = some oy → oy.mut = true → ∃ oz, h.get y = some oz ∧ oz.mut = true := by
      intro y oy hy hmy;split at hy
      · cases hy; simp [Obj.mut] at hmy
      · exact ⟨oy, hy, hmy⟩
    obtain ⟨oa', h1, h2⟩ := get' ha hma;obtain ⟨ob', h3, h4⟩ := get' hb hmb;exact H.inj a b oa' ob' ka kb h1 h3 h2 h4 hka hkb e
  · intro a oa ka ha hma hka;rw [Heap.get_put] at ha;split at ha
    · cases ha; cases hma
    · exact H.out a oa ka ha hma hka
end Go.Abs
end
