/-
  A part of an interpreter of the program's code that is proved sound, and of what it says of single functions: EngI2 EngWp EngSim EngSimF EngRaw SolT SolTab SolData SolV1 SolV2 SolV3.
-/
import Derived.KernelRfl
import Derived.Test.YtbinfhpngacfgaaGreatVa6
import Derived.Test.YtbinfhpngacfgaaGreatVa7
import Derived.Test.YtbinfhpngacfgaaGreatVa9
set_option linter.all false
set_option linter.unusedSimpArgs false
set_option linter.unusedVariables false
section
namespace Go.Abs
variable {P : Program} {C : Cfg} {mix : List TypeId}
abbrev Tab := List (FuncId × List AV × AV)
def Tab.look : Tab → FuncId → List AV → Option AV
  | [], _, _ => none
  | (g, bs, r) :: l, f, az => match Nat.beq g f with
    | true => match AV.sames bs az with
      | true => some r
      | false => Tab.look l f az
    | false => Tab.look l f az
def Tab.Known (P : Program) (C : Cfg) (T : Tab) : Prop := ∀ f az r, (f, az, r) ∈ T → KL P C (.fn f) az [] [] false none = .ok (.ret r, [])
theorem Tab.look_mem : ∀ {T : Tab} {f : FuncId} {az : List AV} {r : AV}, T.look f az = some r → (f, az, r) ∈ T
  | [], _, _, _, h => by cases h
  | (g, bs, r') :: l, f, az, r, h => by
    unfold Tab.look at h
    split at h
    · rename_i h1
      split at h
      · rename_i h2
        cases h
        rw [← Nat.eq_of_beq_eq_true h1, ← AV.sames_eq h2]
        simp
      · exact List.mem_cons_of_mem _ (Tab.look_mem h)
    · exact List.mem_cons_of_mem _ (Tab.look_mem h)
def Tab.ask (T : Tab) (f : FuncId) (az : List AV) : Heap → List Nat → Bool → Option (List Nat) → Option AV
  | [], [], false, none => T.look f az
  | _, _, _, _ => none
def callT (P : Program) (C : Cfg) (T : Tab) (m : Nat) : Nat → Oracle
  | 0 => fun _ _ _ _ _ _ => .err [25]
  | n + 1 => fun t args h π raw prot => match t with
    | .fn f => match T.ask f args h π raw prot with
      | some r => .ok (.ret r, [])
      | none => match C.good f with
        | true => runFn P C (callT P C T m n) m f args h π raw prot
        | false => .err [41, f]
    | .round id r => match raw with
      | true => runRound C (callT P C T m n) m id r args h π prot
      | false => .err [42]
theorem callT_KL {T : Tab} (hT : T.Known P C) {m : Nat} : ∀ {n : Nat} {q : Qu} {r : COut × Heap}, ask (callT P C T m n) q = .ok r → ask (KL P C) q = .ok r
  | 0, q, r, h => by simp [ask, callT] at h
  | n + 1, ⟨t, args, h, π, raw, prot⟩, r, hr => by
    simp only [ask, callT] at hr ⊢
    cases t with
    | fn f =>
      simp only at hr
      split at hr
      · rename_i r' hl
        cases hr
        unfold Tab.ask at hl
        split at hl
        · exact hT _ _ _ (Tab.look_mem hl)
        · cases hl
      · split at hr
        · rename_i hg
          obtain ⟨L, hL⟩ := runFn_supp hr
          refine KL_fn hg (n := m) ?_
          exact hL _ m (Nat.le_refl _) fun q _ r' h' => callT_KL hT h'
        · cases hr
    | round id lp =>
      simp only at hr
      split at hr
      · rename_i hrw
        obtain ⟨L, hL⟩ := runRound_supp hr
        refine KL_round (n := m) ?_
        exact hL _ m (Nat.le_refl _) fun q _ r' h' => callT_KL hT h'
      · cases hr
theorem KL_run {T : Tab} (hT : T.Known P C) (m n : Nat) {f : FuncId} {az : List AV} {r : AV} (h : callT P C T m n (.fn f) az [] [] false none = .ok (.ret r, [])) : KL P C (.fn f) az [] [] false none = .ok (.ret r, []) :=
  callT_KL (q := ⟨.fn f, az, [], [], false, none⟩) hT h
theorem Tab.known_nil : Tab.Known P C [] := fun _ _ _ h => by cases h
theorem Tab.known_cons {T : Tab} {f : FuncId} {az : List AV} {r : AV} (h : KL P C (.fn f) az [] [] false none = .ok (.ret r, [])) (hT : T.Known P C) : Tab.Known P C ((f, az, r) :: T) := fun f' az' r' hm => by
  rcases List.mem_cons.1 hm with h1 | h1
  · cases h1; exact h
  · exact hT _ _ _ h1
end Go.Abs
end
section
namespace Go.Abs
variable {P : Program} {C : Cfg} {K : Oracle} {fr : Fr} {b n i : Nat} {Q : Out → St → Prop}
def Wp (C : Cfg) (K : Oracle) (fr : Fr) (b : Nat) (c : Code) (st : St) (Q : Out → St → Prop) : Prop := ∃ n o st', exec C K fr n b c st = .ok (o, st') ∧ Q o st'
theorem exec_up {n m b : Nat} {c : Code} {st : St} {r : Out × St} (h : exec C K fr n b c st = .ok r) (hm : n ≤ m) : exec C K fr m b c st = .ok r := by
  obtain ⟨L, hL⟩ := exec_supp n b c st (E.good_of h)
  rw [hL K m hm (fun _ _ _ h => h), h]
def seqQ (C : Cfg) (K : Oracle) (fr : Fr) (b : Nat) (y : Code) (Q : Out → St → Prop) : Out → St → Prop
  | .normal, st => Wp C K fr b y st Q
  | o, st => Q o st
def blockQ (id : Nat) (Q : Out → St → Prop) : Out → St → Prop
  | .exit k, st => match Nat.beq k id with
    | true => Q .normal st
    | false => Q (.exit k) st
  | o, st => Q o st
def condP (C : Cfg) (K : Oracle) (fr : Fr) (b : Nat) (x y : Code) (st : St) (Q : Out → St → Prop) : AV → Prop
  | .d (.bool true) => Wp C K fr b x st Q
  | .d (.bool false) => Wp C K fr b y st Q
  | _ => False
def opsP (C : Cfg) (K : Oracle) (fr : Fr) (ops : Array Oper) (b n : Nat) (al : Nat → Bool) (l : List Oper) (i : Nat) (st : St) (Q : Out → St → Prop) : Prop :=
  match runOps C K fr ops b al l i st with
  | .ok ((none, st'), _) => Q .normal { st' with base := b + n }
  | .ok ((some v, st'), _) => Q (.pan v) { st' with base := b + n }
  | .err _ => False
def opsF (C : Cfg) (K : Oracle) (fr : Fr) (ops : Array Oper) (b n : Nat) (al : Nat → Bool) (ps : List (Nat × Nat)) (fps : List Fp) (l : List Oper) (i : Nat) (st : St) (Q : Out → St → Prop) : Prop :=
  match runOps C K fr ops b al l i st with
  | .ok ((none, st'), f) => pairsOk (fps ++ f) ps = true ∧ Q .normal { st' with base := b + n }
  | .ok ((some v, st'), f) => pairsOk (fps ++ f) ps = true ∧ Q (.pan v) { st' with base := b + n }
  | .err _ => False
theorem wq_seq (x y : Code) (st : St) : Wp C K fr b (.seq x y) st Q = Wp C K fr b x st (seqQ C K fr b y Q) := by
  refine propext ⟨fun ⟨n, o, st', h, hq⟩ => ?_, fun ⟨n, o, st', h, hq⟩ => ?_⟩
  · cases n with
    | zero => simp [exec] at h
    | succ n =>
      simp only [exec] at h
      cases hx : exec C K fr n b x st with
      | err e => rw [hx] at h; cases h
      | ok r =>
        rw [hx] at h
        obtain ⟨o1, st1⟩ := r
        refine ⟨n, o1, st1, hx, ?_⟩
        cases o1 <;> simp only [outSeq] at h
        · exact ⟨n, o, st', h, hq⟩
        all_goals (cases h; exact hq)
  · cases o with
    | normal =>
      obtain ⟨m, o2, st2, h2, hq2⟩ := hq
      refine ⟨max n m + 1, o2, st2, ?_, hq2⟩
      simp only [exec, exec_up h (Nat.le_max_left n m), outSeq, exec_up h2 (Nat.le_max_right n m)]
    | _ => exact ⟨n + 1, _, st', by simp only [exec, h, outSeq], hq⟩
theorem wq_cond (c : Operand) (x y : Code) (st : St) : Wp C K fr b (.cond c x y) st Q = condP C K fr b x y st Q (ev st.env.get c) := by
  have e : ∀ {v : AV} {x y : Code} (hv : ∀ n, exec C K fr (n + 1) b (.cond c x y) st = execCond v (exec C K fr n b x st) (exec C K fr n b y st)), Wp C K fr b (.cond c x y) st Q = condP C K fr b x y st Q v := by
    intro v x y hv
    refine propext ⟨fun ⟨n, o, st', h, hq⟩ => ?_, fun h => ?_⟩
    · cases n with
      | zero => simp [exec] at h
      | succ n =>
        rw [hv] at h
        unfold execCond at h
        split at h
        · rename_i t
          cases t
          · exact ⟨n, o, st', h, hq⟩
          · exact ⟨n, o, st', h, hq⟩
        · cases h
    · unfold condP at h
      split at h
      · obtain ⟨n, o, st', h, hq⟩ := h
        exact ⟨n + 1, o, st', by rw [hv]; exact h, hq⟩
      · obtain ⟨n, o, st', h, hq⟩ := h
        exact ⟨n + 1, o, st', by rw [hv]; exact h, hq⟩
      · exact h.elim
  exact e fun n => by simp only [exec]
theorem wq_block (id : Nat) (x : Code) (st : St) : Wp C K fr b (.block id x) st Q = Wp C K fr id x st (blockQ id Q) := by
  refine propext ⟨fun ⟨n, o, st', h, hq⟩ => ?_, fun ⟨n, o, st', h, hq⟩ => ?_⟩
  · cases n with
    | zero => simp [exec] at h
    | succ n =>
      simp only [exec] at h
      cases hx : exec C K fr n id x st with
      | err e => rw [hx] at h; cases h
      | ok r =>
        rw [hx] at h
        obtain ⟨o1, st1⟩ := r
        refine ⟨n, o1, st1, hx, ?_⟩
        cases o1 with
        | exit k =>
          simp only [outBlock] at h
          simp only [blockQ]
          split at h <;> (rename_i hk; rw [hk]; cases h; exact hq)
        | _ => cases h; exact hq
  · cases o with
    | exit k =>
      simp only [blockQ] at hq
      cases hk : Nat.beq k id with
      | true =>
        rw [hk] at hq
        exact ⟨n + 1, .normal, st', by simp only [exec, h, outBlock, hk], hq⟩
      | false =>
        rw [hk] at hq
        exact ⟨n + 1, .exit k, st', by simp only [exec, h, outBlock, hk], hq⟩
    | _ => exact ⟨n + 1, _, st', by simp only [exec, h, outBlock], hq⟩
theorem wq_one {c : Code} {st : St} {o : Out} {st' : St} (h : ∀ n, exec C K fr (n + 1) b c st = .ok (o, st')) : Wp C K fr b c st Q = Q o st' := by
  refine propext ⟨fun ⟨n, o1, st1, h1, hq⟩ => ?_, fun hq => ⟨1, o, st', h 0, hq⟩⟩
  cases n with
  | zero => simp [exec] at h1
  | succ n =>
    rw [h] at h1
    cases h1
    exact hq
theorem wq_skip (st : St) : Wp C K fr b .skip st Q = Q .normal st := wq_one fun _ => rfl
theorem wq_label (l : Nat) (st : St) : Wp C K fr b (.label l) st Q = Q .normal st := wq_one fun _ => rfl
theorem wq_ret (st : St) : Wp C K fr b .ret st Q = Q .ret st := wq_one fun _ => rfl
theorem wq_exit (id : Nat) (st : St) : Wp C K fr b (.exit id) st Q = Q (.exit id) st := wq_one fun _ => rfl
theorem wq_region0 (id : Nat) (ops : Array Oper) (draw : Bool) (st : St) : Wp C K fr b (.region id ops draw) st Q = match execRegion C K fr id ops draw st with | .ok (o, st') => Q o st' | .err _ => False := by
  cases h : execRegion C K fr id ops draw st with
  | ok r =>
    obtain ⟨o, st'⟩ := r
    exact wq_one fun n => by simp only [exec, h]
  | err e =>
    refine propext ⟨fun ⟨n, o, st', h1, hq⟩ => ?_, fun h => h.elim⟩
    cases n with
    | zero => simp [exec] at h1
    | succ n =>
      simp only [exec, h] at h1
      cases h1
theorem wq_region (id : Nat) (ops : Array Oper) (e : Env) (h : Heap) (bs : Nat) (ds : List Df) : Wp C K fr b (.region id ops false) ⟨e, h, bs, ds⟩ Q = opsP C K fr ops bs ops.size (fun _ => true) ops.toList 0 ⟨e, h, bs, ds⟩ Q := by
  rw [wq_region0]
  unfold execRegion opsP
  simp only [Bool.not_false, Bool.true_or]
  cases runOps C K fr ops bs (fun _ => true) ops.toList 0 ⟨e, h, bs, ds⟩ with
  | err l => rfl
  | ok r =>
    obtain ⟨⟨o, st'⟩, fps⟩ := r
    cases o <;> simp [outRegion]
theorem wq_draw0 (id : Nat) (ops : Array Oper) (e : Env) (h : Heap) (bs : Nat) (ds : List Df) (hp : C.pairs fr.f id = []) : Wp C K fr b (.region id ops true) ⟨e, h, bs, ds⟩ Q = opsP C K fr ops bs ops.size (fun i => C.alone fr.f id i) ops.toList 0 ⟨e, h, bs, ds⟩ Q := by
  rw [wq_region0]
  unfold execRegion opsP
  simp only [Bool.not_true, Bool.false_or]
  cases runOps C K fr ops bs (fun i => C.alone fr.f id i) ops.toList 0 ⟨e, h, bs, ds⟩ with
  | err l => rfl
  | ok r =>
    obtain ⟨⟨o, st'⟩, fps⟩ := r
    cases o <;> simp [outRegion, hp, pairsOk]
theorem wq_draw (id : Nat) (ops : Array Oper) (e : Env) (h : Heap) (bs : Nat) (ds : List Df) {ps : List (Nat × Nat)} (hp : C.pairs fr.f id = ps) : Wp C K fr b (.region id ops true) ⟨e, h, bs, ds⟩ Q = opsF C K fr ops bs ops.size (fun i => C.alone fr.f id i) ps [] ops.toList 0 ⟨e, h, bs, ds⟩ Q := by
  rw [wq_region0]
  unfold execRegion opsF
  simp only [Bool.not_true, Bool.false_or, List.nil_append]
  cases runOps C K fr ops bs (fun i => C.alone fr.f id i) ops.toList 0 ⟨e, h, bs, ds⟩ with
  | err l => rfl
  | ok r =>
    obtain ⟨⟨o, st'⟩, fps⟩ := r
    subst hp
    cases o <;> cases hq : pairsOk fps (C.pairs fr.f id) <;> simp [outRegion, hq]
theorem seqQ_normal (y : Code) (st : St) : seqQ C K fr b y Q .normal st = Wp C K fr b y st Q := rfl
theorem seqQ_exit (y : Code) (k : Nat) (st : St) : seqQ C K fr b y Q (.exit k) st = Q (.exit k) st := rfl
theorem seqQ_ret (y : Code) (st : St) : seqQ C K fr b y Q .ret st = Q .ret st := rfl
theorem seqQ_pan (y : Code) (v : AV) (st : St) : seqQ C K fr b y Q (.pan v) st = Q (.pan v) st := rfl
theorem blockQ_normal (id : Nat) (st : St) : blockQ id Q .normal st = Q .normal st := rfl
theorem blockQ_ret (id : Nat) (st : St) : blockQ id Q .ret st = Q .ret st := rfl
theorem blockQ_pan (id : Nat) (v : AV) (st : St) : blockQ id Q (.pan v) st = Q (.pan v) st := rfl
theorem blockQ_exit (id : Nat) (st : St) : blockQ id Q (.exit id) st = Q .normal st := by
  simp [blockQ]
theorem blockQ_other (id k : Nat) (st : St) (h : Nat.beq k id = false) : blockQ id Q (.exit k) st = Q (.exit k) st := by
  simp only [blockQ, h]
theorem condP_true (x y : Code) (st : St) : condP C K fr b x y st Q (.d (.bool true)) = Wp C K fr b x st Q := rfl
theorem condP_false (x y : Code) (st : St) : condP C K fr b x y st Q (.d (.bool false)) = Wp C K fr b y st Q := rfl
theorem condP_split {x y : Code} {st : St} {t : Bool} (h1 : t = true → Wp C K fr b x st Q) (h2 : t = false → Wp C K fr b y st Q) : condP C K fr b x y st Q (.d (.bool t)) := by
  cases t
  · exact h2 rfl
  · exact h1 rfl
variable {ops : Array Oper} {al : Nat → Bool} {l : List Oper} {e : Env} {h : Heap} {bs : Nat} {ds : List Df} {ps : List (Nat × Nat)} {fps : List Fp}
def plainP (C : Cfg) (K : Oracle) (fr : Fr) (ops : Array Oper) (b n : Nat) (al : Nat → Bool) (l : List Oper) (i : Nat) (dst : Option Tmp) (e : Env) (h : Heap) (bs : Nat) (ds : List Df) (Q : Out → St → Prop) : Option Eff → Prop
  | some x => wok fr.prot x.δ = true ∧ opsP C K fr ops b n al l (i + 1) ⟨putE e dst x.v, h.puts x.δ, bs, ds⟩ Q
  | none => False
def stepP (C : Cfg) (K : Oracle) (fr : Fr) (ops : Array Oper) (b n : Nat) (al : Nat → Bool) (l : List Oper) (i : Nat) (Q : Out → St → Prop) : Res → Prop
  | .ok st _ => opsP C K fr ops b n al l (i + 1) st Q
  | .pan v st => al i = true ∧ Q (.pan v) { st with base := b + n }
  | .err _ => False
theorem opsP_nil : opsP C K fr ops b n al [] i ⟨e, h, bs, ds⟩ Q = Q .normal ⟨e, h, b + n, ds⟩ := rfl
theorem opsP_cons (o : Oper) (st : St) : opsP C K fr ops b n al (o :: l) i st Q = stepP C K fr ops b n al l i Q (stepOp C K fr ops ((b + i) :: fr.π) o st) := by
  unfold opsP
  simp only [runOps, fNat_eq]
  cases hs : stepOp C K fr ops ((b + i) :: fr.π) o st with
  | err e => rfl
  | pan v st' =>
    simp only [stepP]
    cases al i <;> simp
  | ok st' fp =>
    simp only [stepP, opsP]
    cases hr : runOps C K fr ops b al l (i + 1) st' with
    | err e => rfl
    | ok r =>
      obtain ⟨⟨o, st2⟩, fps⟩ := r
      cases o <;> rfl
def guardP (C : Cfg) (K : Oracle) (fr : Fr) (ops : Array Oper) (b n : Nat) (al : Nat → Bool) (l : List Oper) (i : Nat) (dst : Option Tmp) (op : Op) (st : St) (want : Bool) (Q : Out → St → Prop) : AV → Prop
  | .d (.bool t) => match t == want with
    | true => stepP C K fr ops b n al l i Q (doOp C K fr ((b + i) :: fr.π) op dst st)
    | false => opsP C K fr ops b n al l (i + 1) { st with env := putE st.env dst (.tup []) } Q
  | .tup [] => opsP C K fr ops b n al l (i + 1) { st with env := putE st.env dst (.tup []) } Q
  | _ => False
theorem opsP_guard (dst : Option Tmp) (op : Op) (ty : TypeId) (pos : String) (af : Array Edge) (j : Nat) (want : Bool) (st : St) (t : Tmp) (ht : (ops[j]?).bind (·.dst) = some t) :
    opsP C K fr ops b n al (⟨dst, op, ty, pos, af, some (j, want)⟩ :: l) i st Q = guardP C K fr ops b n al l i dst op st want Q (st.env.get t) := by
  rw [opsP_cons]
  simp only [stepOp, guardOf, ht, Option.map_some]
  cases hv : Env.get st.env t with
  | d x => cases x with
    | bool c =>
      simp only [guardP]
      cases (c == want) <;> simp only [stepP, fEnv0_eq]
    | _ => rfl
  | tup vs => cases vs <;> simp only [guardP, stepP, fEnv0_eq]
  | _ => rfl
theorem guardP_go (dst : Option Tmp) (op : Op) (st : St) (want : Bool) : guardP C K fr ops b n al l i dst op st want Q (.d (.bool want)) = stepP C K fr ops b n al l i Q (doOp C K fr ((b + i) :: fr.π) op dst st) := by
  simp [guardP]
theorem guardP_tt (dst : Option Tmp) (op : Op) (st : St) : guardP C K fr ops b n al l i dst op st true Q (.d (.bool true)) = stepP C K fr ops b n al l i Q (doOp C K fr ((b + i) :: fr.π) op dst st) := rfl
theorem guardP_ff (dst : Option Tmp) (op : Op) (st : St) : guardP C K fr ops b n al l i dst op st false Q (.d (.bool false)) = stepP C K fr ops b n al l i Q (doOp C K fr ((b + i) :: fr.π) op dst st) := rfl
theorem guardP_tf (dst : Option Tmp) (op : Op) : guardP C K fr ops b n al l i dst op ⟨e, h, bs, ds⟩ true Q (.d (.bool false)) = opsP C K fr ops b n al l (i + 1) ⟨putE e dst (.tup []), h, bs, ds⟩ Q := rfl
theorem guardP_ft (dst : Option Tmp) (op : Op) : guardP C K fr ops b n al l i dst op ⟨e, h, bs, ds⟩ false Q (.d (.bool true)) = opsP C K fr ops b n al l (i + 1) ⟨putE e dst (.tup []), h, bs, ds⟩ Q := rfl
theorem guardP_split {dst : Option Tmp} {op : Op} {st : St} {want t : Bool} (h1 : t = true → guardP C K fr ops b n al l i dst op st want Q (.d (.bool true))) (h2 : t = false → guardP C K fr ops b n al l i dst op st want Q (.d (.bool false))) : guardP C K fr ops b n al l i dst op st want Q (.d (.bool t)) := by
  cases t
  · exact h2 rfl
  · exact h1 rfl
theorem opsP_free (dst : Option Tmp) (op : Op) (ty : TypeId) (pos : String) (af : Array Edge) (st : St) :
    opsP C K fr ops b n al (⟨dst, op, ty, pos, af, none⟩ :: l) i st Q = stepP C K fr ops b n al l i Q (doOp C K fr ((b + i) :: fr.π) op dst st) := by
  rw [opsP_cons]
  simp only [stepOp, guardOf]
theorem stepP_plain (dst : Option Tmp) (op : Op) (r : Option Eff) : stepP C K fr ops b n al l i Q (doPlain fr op dst ⟨e, h, bs, ds⟩ r) = plainP C K fr ops b n al l i dst e h bs ds Q r := by
  cases r with
  | none => rfl
  | some x =>
    simp only [doPlain, plainP, fAV_eq, fHeap_eq, fEnv0_eq]
    cases hw : wok fr.prot x.δ with
    | false => simp [stepP]
    | true =>
      simp only [true_and]
      have : ∀ k : Heap → Res, fPuts h x.δ k = k (h.puts x.δ) := fun k => by
        unfold fPuts
        split
        · rename_i hd; rw [hd]; rfl
        · simp only [fHeap0_eq]
      rw [this]
      simp only [stepP]
theorem plainP_same (dst : Option Tmp) (v : AV) : plainP C K fr ops b n al l i dst e h bs ds Q (some ⟨v, []⟩) = opsP C K fr ops b n al l (i + 1) ⟨putE e dst v, h, bs, ds⟩ Q := by
  have : wok fr.prot [] = true := by cases hp : fr.prot <;> rfl
  simp only [plainP, this, true_and]
  rfl
theorem plainP_new (dst : Option Tmp) (v : AV) (x : Id × Obj) (δ : Heap) : plainP C K fr ops b n al l i dst e h bs ds Q (some ⟨v, x :: δ⟩) = (wok fr.prot (x :: δ) = true ∧ opsP C K fr ops b n al l (i + 1) ⟨putE e dst v, h.puts (x :: δ), bs, ds⟩ Q) := rfl
section
variable (dst : Option Tmp) (ρ : List Nat)
theorem g_move (x : Operand) : stepP C K fr ops b n al l i Q (doOp C K fr ρ (.move x) dst ⟨e, h, bs, ds⟩) = opsP C K fr ops b n al l (i + 1) ⟨putE e dst (ev e.get x), h, bs, ds⟩ Q := by
  simp only [doOp, evalOp, stepP_plain, plainP_same]
theorem g_assign (x : Operand) : stepP C K fr ops b n al l i Q (doOp C K fr ρ (.assign x) dst ⟨e, h, bs, ds⟩) = opsP C K fr ops b n al l (i + 1) ⟨putE e dst (ev e.get x), h, bs, ds⟩ Q := by
  simp only [doOp, evalOp, stepP_plain, plainP_same]
theorem g_pick (c x y : Operand) : stepP C K fr ops b n al l i Q (doOp C K fr ρ (.pick c x y) dst ⟨e, h, bs, ds⟩) = plainP C K fr ops b n al l i dst e h bs ds Q (opPick (ev e.get c) (ev e.get x) (ev e.get y)) := by
  simp only [doOp, evalOp, stepP_plain]
theorem g_alloc (t : TypeId) : stepP C K fr ops b n al l i Q (doOp C K fr ρ (.alloc t) dst ⟨e, h, bs, ds⟩) = plainP C K fr ops b n al l i dst e h bs ds Q (opAlloc ρ (C.T t)) := by
  simp only [doOp, evalOp, stepP_plain]
theorem g_box (t : TypeId) (x : Operand) : stepP C K fr ops b n al l i Q (doOp C K fr ρ (.box t x) dst ⟨e, h, bs, ds⟩) = plainP C K fr ops b n al l i dst e h bs ds Q (opBox ρ (ev e.get x) (C.T t)) := by
  simp only [doOp, evalOp, stepP_plain]
theorem g_build (t : TypeId) (p : Array (Nat × Operand)) : stepP C K fr ops b n al l i Q (doOp C K fr ρ (.build t p) dst ⟨e, h, bs, ds⟩) = plainP C K fr ops b n al l i dst e h bs ds Q (opBuild (evParts e.get p) (C.T t)) := by
  simp only [doOp, evalOp, stepP_plain]
theorem g_buildSlice (t : TypeId) (m : Nat) (p : Array (Nat × Operand)) : stepP C K fr ops b n al l i Q (doOp C K fr ρ (.buildSlice t m p) dst ⟨e, h, bs, ds⟩) = plainP C K fr ops b n al l i dst e h bs ds Q (opBuildSlice C.T h.get ρ m (evParts e.get p) (C.T t)) := by
  simp only [doOp, evalOp, stepP_plain]
theorem g_load (t : TypeId) (a : Operand) : stepP C K fr ops b n al l i Q (doOp C K fr ρ (.load t a) dst ⟨e, h, bs, ds⟩) = plainP C K fr ops b n al l i dst e h bs ds Q (opLoad h.get (ev e.get a) (C.T t)) := by
  simp only [doOp, evalOp, stepP_plain]
theorem g_store (t : TypeId) (a x : Operand) : stepP C K fr ops b n al l i Q (doOp C K fr ρ (.store t a x) dst ⟨e, h, bs, ds⟩) = plainP C K fr ops b n al l i dst e h bs ds Q (opStore h.get (ev e.get a) (ev e.get x) (C.T t)) := by
  simp only [doOp, evalOp, stepP_plain]
theorem g_nilCheck (x : Operand) : stepP C K fr ops b n al l i Q (doOp C K fr ρ (.nilCheck x) dst ⟨e, h, bs, ds⟩) = plainP C K fr ops b n al l i dst e h bs ds Q (opNilCheck (ev e.get x)) := by
  simp only [doOp, evalOp, stepP_plain]
theorem g_binOp (op : BinOp) (t : TypeId) (x y : Operand) (u : TypeId) : stepP C K fr ops b n al l i Q (doOp C K fr ρ (.binOp op t x y u) dst ⟨e, h, bs, ds⟩) = plainP C K fr ops b n al l i dst e h bs ds Q ((binV op (ev e.get x) (ev e.get y) (C.T t)).map (⟨·, []⟩)) := by
  simp only [doOp, evalOp, stepP_plain]
theorem g_unOp (op : UnOp) (t : TypeId) (x : Operand) : stepP C K fr ops b n al l i Q (doOp C K fr ρ (.unOp op t x) dst ⟨e, h, bs, ds⟩) = plainP C K fr ops b n al l i dst e h bs ds Q (opUn op (ev e.get x)) := by
  simp only [doOp, evalOp, stepP_plain]
theorem g_iface (t : TypeId) (x : Operand) : stepP C K fr ops b n al l i Q (doOp C K fr ρ (.makeInterface t x) dst ⟨e, h, bs, ds⟩) = plainP C K fr ops b n al l i dst e h bs ds Q (opIface t (ev e.get x) (C.T t)) := by
  simp only [doOp, evalOp, stepP_plain]
theorem g_assert (x : Operand) (t u : TypeId) : stepP C K fr ops b n al l i Q (doOp C K fr ρ (.typeAssert x t u true) dst ⟨e, h, bs, ds⟩) = plainP C K fr ops b n al l i dst e h bs ds Q (opAssert u (ev e.get x) (C.T u)) := by
  simp only [doOp, evalOp, stepP_plain]
theorem g_makeFunc (f : Fn) (first cap : Array Operand) : stepP C K fr ops b n al l i Q (doOp C K fr ρ (.makeFunc f first cap) dst ⟨e, h, bs, ds⟩) = plainP C K fr ops b n al l i dst e h bs ds Q (opMakeFunc f (first.toList.map (ev e.get)) (cap.toList.map (ev e.get))) := by
  simp only [doOp, evalOp, stepP_plain]
theorem g_makeMap (t : TypeId) (r : Option Operand) : stepP C K fr ops b n al l i Q (doOp C K fr ρ (.makeMap t r) dst ⟨e, h, bs, ds⟩) = plainP C K fr ops b n al l i dst e h bs ds Q (opMakeMap ρ r) := by
  simp only [doOp, evalOp, stepP_plain]
theorem g_insert (t : TypeId) (m k v : Operand) : stepP C K fr ops b n al l i Q (doOp C K fr ρ (.insert t m k v) dst ⟨e, h, bs, ds⟩) = plainP C K fr ops b n al l i dst e h bs ds Q (mapPut C.T h.get (C.T t) (ev e.get m) (ev e.get k) (ev e.get v)) := by
  simp only [doOp, evalOp, stepP_plain]
theorem g_mapUpdate (t : TypeId) (m k v : Operand) : stepP C K fr ops b n al l i Q (doOp C K fr ρ (.mapUpdate t m k v) dst ⟨e, h, bs, ds⟩) = plainP C K fr ops b n al l i dst e h bs ds Q (mapPut C.T h.get (C.T t) (ev e.get m) (ev e.get k) (ev e.get v)) := by
  simp only [doOp, evalOp, stepP_plain]
theorem g_lookup (t : TypeId) (m k : Operand) (ok : Bool) : stepP C K fr ops b n al l i Q (doOp C K fr ρ (.lookup t m k ok) dst ⟨e, h, bs, ds⟩) = plainP C K fr ops b n al l i dst e h bs ds Q (opLookup C.T h.get (ev e.get m) (ev e.get k) ok (C.T t)) := by
  simp only [doOp, evalOp, stepP_plain]
theorem g_makeSlice (t : TypeId) (x y : Operand) : stepP C K fr ops b n al l i Q (doOp C K fr ρ (.makeSlice t x y) dst ⟨e, h, bs, ds⟩) = plainP C K fr ops b n al l i dst e h bs ds Q (opMakeSlice C.T h.get ρ (ev e.get x) (ev e.get y) (C.T t)) := by
  simp only [doOp, evalOp, stepP_plain]
theorem g_slice (t : TypeId) (x : Operand) (lo hi mx : Option Operand) : stepP C K fr ops b n al l i Q (doOp C K fr ρ (.slice t x lo hi mx) dst ⟨e, h, bs, ds⟩) = plainP C K fr ops b n al l i dst e h bs ds Q (opSlice C.T h.get (ev e.get x) (lo.map (ev e.get)) (hi.map (ev e.get)) (mx.map (ev e.get)) (C.T t)) := by
  simp only [doOp, evalOp, stepP_plain]
theorem g_fieldAddr (t : TypeId) (x : Operand) (k : Nat) : stepP C K fr ops b n al l i Q (doOp C K fr ρ (.fieldAddr t x k) dst ⟨e, h, bs, ds⟩) = plainP C K fr ops b n al l i dst e h bs ds Q (opFieldAddr k (ev e.get x) (C.T t)) := by
  simp only [doOp, evalOp, stepP_plain]
theorem g_field (t : TypeId) (x : Operand) (k : Nat) : stepP C K fr ops b n al l i Q (doOp C K fr ρ (.field t x k) dst ⟨e, h, bs, ds⟩) = plainP C K fr ops b n al l i dst e h bs ds Q (opField k (ev e.get x) (C.T t)) := by
  simp only [doOp, evalOp, stepP_plain]
theorem g_indexAddr (t : TypeId) (x y : Operand) : stepP C K fr ops b n al l i Q (doOp C K fr ρ (.indexAddr t x y) dst ⟨e, h, bs, ds⟩) = plainP C K fr ops b n al l i dst e h bs ds Q (opIndexAddr C.T h.get (ev e.get x) (ev e.get y) (C.T t)) := by
  simp only [doOp, evalOp, stepP_plain]
theorem g_index (t : TypeId) (x y : Operand) : stepP C K fr ops b n al l i Q (doOp C K fr ρ (.index t x y) dst ⟨e, h, bs, ds⟩) = plainP C K fr ops b n al l i dst e h bs ds Q (opIndex (ev e.get x) (ev e.get y) (C.T t)) := by
  simp only [doOp, evalOp, stepP_plain]
theorem g_extract (x : Operand) (k : Nat) : stepP C K fr ops b n al l i Q (doOp C K fr ρ (.extract x k) dst ⟨e, h, bs, ds⟩) = plainP C K fr ops b n al l i dst e h bs ds Q (opExtract k (ev e.get x)) := by
  simp only [doOp, evalOp, stepP_plain]
theorem g_builtin (f : Builtin) (az : Array Operand) (ts : Array TypeId) : stepP C K fr ops b n al l i Q (doOp C K fr ρ (.call ⟨.builtin f, az, ts⟩) dst ⟨e, h, bs, ds⟩) = plainP C K fr ops b n al l i dst e h bs ds Q (opBuiltin C.T h.get ρ f (az.toList.map (ev e.get)) ts.toList) := by
  simp only [doOp, opCall, stepP_plain]
theorem g_panic (x : Operand) : stepP C K fr ops b n al l i Q (doOp C K fr ρ (.panic x) dst ⟨e, h, bs, ds⟩) = stepP C K fr ops b n al l i Q (doPanic ⟨e, h, bs, ds⟩ (ev e.get x)) := rfl
theorem g_defer (c : Call) : stepP C K fr ops b n al l i Q (doOp C K fr ρ (.defer c) dst ⟨e, h, bs, ds⟩) = stepP C K fr ops b n al l i Q (doDefer fr e.get c dst ⟨e, h, bs, ds⟩) := rfl
def pureP (C : Cfg) (K : Oracle) (fr : Fr) (ops : Array Oper) (b n : Nat) (al : Nat → Bool) (l : List Oper) (i : Nat) (az : List AV) (dst : Option Tmp) (e : Env) (h : Heap) (bs : Nat) (ds : List Df) (Q : Out → St → Prop) (r : E (COut × Heap)) : Prop :=
  stepP C K fr ops b n al l i Q (retPure fr az dst ⟨e, h, bs, ds⟩ r)
def callP (C : Cfg) (K : Oracle) (fr : Fr) (ops : Array Oper) (b n : Nat) (al : Nat → Bool) (l : List Oper) (i : Nat) (dst : Option Tmp) (ρ : List Nat) (e : Env) (h : Heap) (bs : Nat) (ds : List Df) (Q : Out → St → Prop) (args : List AV) : AV → Prop
  | fv => stepP C K fr ops b n al l i Q (doCall C K fr ρ fv args dst ⟨e, h, bs, ds⟩)
theorem g_value (f : Operand) (az : Array Operand) (ts : Array TypeId) : stepP C K fr ops b n al l i Q (doOp C K fr ρ (.call ⟨.value f, az, ts⟩) dst ⟨e, h, bs, ds⟩) = callP C K fr ops b n al l i dst ρ e h bs ds Q (az.toList.map (ev e.get)) (ev e.get f) := rfl
def nrm : COut × Heap → COut × Heap
  | (.ret v, h) => (.ret v, h)
  | (.pan v, _) => (.pan v, [])
def askN (K : Oracle) (f : FuncId) (xs : List AV) (own : List Nat) : E (COut × Heap) := match K (.fn f) xs [] own false none with
  | .ok r => .ok (nrm r)
  | .err l => .err l
theorem askN_ret {K : Oracle} {f : FuncId} {xs : List AV} {own : List Nat} {v : AV} {h : Heap} (hk : askN K f xs own = .ok (.ret v, h)) : K (.fn f) xs [] own false none = .ok (.ret v, h) := by
  unfold askN at hk
  split at hk
  · rename_i r hr
    obtain ⟨o, h'⟩ := r
    cases o with
    | ret u => simp only [nrm, E.ok.injEq] at hk; rw [hr, hk]
    | pan u => simp [nrm] at hk
  · cases hk
theorem retPure_nrm (fr : Fr) (az : List AV) (dst : Option Tmp) (st : St) (f : FuncId) (xs : List AV) (own : List Nat) : retPure fr az dst st (K (.fn f) xs [] own false none) = retPure fr az dst st (askN K f xs own) := by
  unfold askN
  cases K (.fn f) xs [] own false none with
  | err l => rfl
  | ok r =>
    obtain ⟨o, h⟩ := r
    cases o <;> rfl
def modeP (C : Cfg) (K : Oracle) (fr : Fr) (ops : Array Oper) (b n : Nat) (al : Nat → Bool) (l : List Oper) (i : Nat) (dst : Option Tmp) (ρ : List Nat) (e : Env) (h : Heap) (bs : Nat) (ds : List Df) (Q : Out → St → Prop) (f : FuncId) (az : List AV) (m : Mode) : Prop :=
  stepP C K fr ops b n al l i Q (callFn K fr ρ f az dst ⟨e, h, bs, ds⟩ m)
theorem callP_fn (f : FuncId) (first cap args : List AV) : callP C K fr ops b n al l i dst ρ e h bs ds Q args (.fn f first cap) = modeP C K fr ops b n al l i dst ρ e h bs ds Q f (first ++ args ++ cap) (C.mode f) := by
  simp only [callP, modeP, doCall, fAVs1_eq]
def frzP (C : Cfg) (K : Oracle) (fr : Fr) (ops : Array Oper) (b n : Nat) (al : Nat → Bool) (l : List Oper) (i : Nat) (dst : Option Tmp) (ρ : List Nat) (e : Env) (h : Heap) (bs : Nat) (ds : List Df) (Q : Out → St → Prop) (f : FuncId) (az : List AV) (own : List Nat) : Option (List AV) → Prop
  | some xs => pureP C K fr ops b n al l i az dst e h bs ds Q (K (.fn f) xs [] own false none)
  | none => False
theorem modeP_auto (f : FuncId) (az : List AV) (hx : (frzL h.get az).isSome) : modeP C K fr ops b n al l i dst ρ e h bs ds Q f az .auto = frzP C K fr ops b n al l i dst ρ e h bs ds Q f az [] (frzL h.get az) := by
  obtain ⟨xs, hx⟩ := Option.isSome_iff_exists.1 hx
  simp only [modeP, callFn, hx, fAVs1_eq, frzP, pureP]
theorem modeP_own (f : FuncId) (az : List AV) (hx : (frzL h.get az).isSome) : modeP C K fr ops b n al l i dst ρ e h bs ds Q f az .own = frzP C K fr ops b n al l i dst ρ e h bs ds Q f az ρ (frzL h.get az) := by
  obtain ⟨xs, hx⟩ := Option.isSome_iff_exists.1 hx
  simp only [modeP, callFn, hx, fAVs1_eq, frzP, pureP]
theorem frzP_some (f : FuncId) (az : List AV) (own : List Nat) (xs : List AV) : frzP C K fr ops b n al l i dst ρ e h bs ds Q f az own (some xs) = pureP C K fr ops b n al l i az dst e h bs ds Q (askN K f xs own) := by
  simp only [frzP, pureP, retPure_nrm]
theorem pureP_flat (az : List AV) (v : AV) (h' : Heap) (hv : flat v = true) : pureP C K fr ops b n al l i az dst e h bs ds Q (.ok (.ret v, h')) = opsP C K fr ops b n al l (i + 1) ⟨putE e dst v, h, bs, ds⟩ Q := by
  simp only [pureP, retPure, fEnv0_eq, hv, stepP]
theorem pureP_pan (az : List AV) (v : AV) (h' : Heap) (hv : flat v = true) : pureP C K fr ops b n al l i az dst e h bs ds Q (.ok (.pan v, h')) = (al i = true ∧ Q (.pan v) ⟨e, h, b + n, ds⟩) := by
  simp only [pureP, retPure, hv, stepP]
theorem pureP_arr (az : List AV) (v : AV) (h' : Heap) (x : Id × Obj) (hv : flat v = false) (hx : flatArr v h' = some x) : pureP C K fr ops b n al l i az dst e h bs ds Q (.ok (.ret v, h')) = opsP C K fr ops b n al l (i + 1) ⟨putE e dst v, x :: h, bs, ds⟩ Q := by
  simp only [pureP, retPure, fEnv0_eq, hv, retList, hx, fHeap0_eq, stepP]
theorem pureP_new (az : List AV) (v : AV) (h' : Heap) (hv : flat v = false) (hx : flatArr v h' = none) : pureP C K fr ops b n al l i az dst e h bs ds Q (.ok (.ret v, h')) = (wok fr.prot (az.flatMap (mark h.get)) = true ∧ opsP C K fr ops b n al l (i + 1) ⟨putE e dst v, h' ++ h.puts (az.flatMap (mark h.get)), bs, ds⟩ Q) := by
  simp only [pureP, retPure, fEnv0_eq, hv, retList, hx, fHeap0_eq, fHeap_eq]
  cases hw : wok fr.prot (az.flatMap (mark h.get)) <;> simp [stepP]
end
def valP (h : Heap) (π : List Nat) (raw : Bool) (Post : COut → Heap → Prop) : Option AV → Prop
  | some v => match raw with
    | true => Post (.ret v) h
    | false => match π with
      | [] => match frz h.get v with
        | some v' => Post (.ret v') []
        | none => False
      | _ => Post (.ret v) h
  | none => False
def resV (C : Cfg) (e : Env) (h : Heap) (rs : List ResultVar) : Option AV := match mapO (resultOne C ⟨e, h, 0, []⟩) rs with
  | some [] => some (.tup [])
  | some [v] => some v
  | some vs => some (.tup vs)
  | none => none
def leaveP (C : Cfg) (rs : List ResultVar) (π : List Nat) (raw : Bool) (e : Env) (Post : COut → Heap → Prop) : E (Option AV × Heap) → Prop
  | .ok (none, h) => valP h π raw Post (resV C e h rs)
  | .ok (some v, h) => Post (.pan v) h
  | .err _ => False
def endP (C : Cfg) (prot : Option (List Nat)) (rs : List ResultVar) (π : List Nat) (raw : Bool) (Post : COut → Heap → Prop) : Out → St → Prop
  | .ret, st => leaveP C rs π raw st.env Post (leave C prot st.defs none st.heap)
  | .normal, st => leaveP C rs π raw st.env Post (leave C prot st.defs none st.heap)
  | .pan v, st => leaveP C rs π raw st.env Post (leave C prot st.defs (some v) st.heap)
  | _, _ => False
theorem KL_post {f : FuncId} {fn : Func} {c : Code} {rs : List ResultVar} {args : List AV} {h : Heap} {π : List Nat} {raw : Bool} {prot : Option (List Nat)} {Post : COut → Heap → Prop} (hg : C.good f = true) (hf : P.funcs[f]? = some fn) (hb : fn.body = some c) (hr : fn.results.toList = rs) (hl : Nat.ble args.length fn.ntmps = true)
    (hw : Wp C (KL P C) { f, π, raw, prot, nt := fn.ntmps } 0 c ⟨paramEnv 0 args, h, 0, []⟩ (endP C prot rs π raw Post)) : ∃ o h', KL P C (.fn f) args h π raw prot = .ok (o, h') ∧ Post o h' := by
  obtain ⟨n, o, st', h1, h2⟩ := hw
  subst hr
  have hres : ∀ h'', resultsOf C fn { st' with heap := h'' } = resV C st'.env h'' fn.results.toList := fun h'' => by
    unfold resultsOf resV
    have e : resultOne C { st' with heap := h'' } = resultOne C ⟨st'.env, h'', 0, []⟩ := funext fun r => by cases r <;> rfl
    rw [e]
    rfl
  have key : ∀ z, leaveP C fn.results.toList π raw st'.env Post z → ∃ o h', outFn C f fn π raw st' z = .ok (o, h') ∧ Post o h' := by
    intro z hz
    cases z with
    | err l => exact hz.elim
    | ok r =>
      obtain ⟨p, h''⟩ := r
      cases p with
      | some v => exact ⟨.pan v, h'', rfl, hz⟩
      | none =>
        simp only [leaveP] at hz
        simp only [outFn, hres]
        cases hv : resV C st'.env h'' fn.results.toList with
        | none => rw [hv] at hz; exact hz.elim
        | some v =>
          rw [hv] at hz
          simp only [valP] at hz
          simp only [fAV_eq]
          cases raw with
          | true => exact ⟨_, _, rfl, hz⟩
          | false =>
            simp only at hz ⊢
            split at hz
            · split at hz
              · rename_i v' hv'
                rw [hv']
                exact ⟨_, _, rfl, hz⟩
              · exact hz.elim
            · exact ⟨_, _, by split <;> first | rfl | contradiction, hz⟩
  have fin : ∃ o' h', endFn C prot f fn π raw (.ok (o, st')) = .ok (o', h') ∧ Post o' h' := by
    cases o with
    | exit k => exact h2.elim
    | ret => exact key _ h2
    | normal => exact key _ h2
    | pan v => exact key _ h2
  obtain ⟨o', h', e, hp⟩ := fin
  refine ⟨o', h', KL_fn hg (n := n) ?_, hp⟩
  unfold runFn
  simp only [hf, hb, hl, h1]
  exact e
theorem KL_wp {f : FuncId} {fn : Func} {c : Code} {rs : List ResultVar} {args : List AV} {h : Heap} {π : List Nat} {raw : Bool} {prot : Option (List Nat)} {o : COut} {h0 : Heap} (hg : C.good f = true) (hf : P.funcs[f]? = some fn) (hb : fn.body = some c) (hr : fn.results.toList = rs) (hl : Nat.ble args.length fn.ntmps = true)
    (hw : Wp C (KL P C) { f, π, raw, prot, nt := fn.ntmps } 0 c ⟨paramEnv 0 args, h, 0, []⟩ (endP C prot rs π raw fun o' h' => o' = o ∧ h' = h0)) : KL P C (.fn f) args h π raw prot = .ok (o, h0) := by
  obtain ⟨o', h', e, rfl, rfl⟩ := KL_post hg hf hb hr hl hw
  exact e
theorem KN_wp {f : FuncId} {fn : Func} {c : Code} {rs : List ResultVar} {args : List AV} {π : List Nat} {r : COut × Heap} (hg : C.good f = true) (hf : P.funcs[f]? = some fn) (hb : fn.body = some c) (hr : fn.results.toList = rs) (hl : Nat.ble args.length fn.ntmps = true)
    (hw : Wp C (KL P C) { f, π, raw := false, prot := none, nt := fn.ntmps } 0 c ⟨paramEnv 0 args, [], 0, []⟩ (endP C none rs π false fun o' h' => nrm (o', h') = r)) : askN (KL P C) f args π = .ok r := by
  obtain ⟨o', h', e, h2⟩ := KL_post hg hf hb hr hl hw
  unfold askN
  rw [e, ← h2]
theorem nrm_ret (v : AV) (h : Heap) : nrm (.ret v, h) = (.ret v, h) := rfl
theorem nrm_pan (v : AV) (h : Heap) : nrm (.pan v, h) = (.pan v, []) := rfl
def loopQ (C : Cfg) (K : Oracle) (fr : Fr) (b : Nat) (x : Code) (Q : Out → St → Prop) : Out → St → Prop
  | .normal, st => Wp C K fr b (.loop x) st Q
  | o, st => Q o st
def WpL (C : Cfg) (K : Oracle) (fr : Fr) (b : Nat) (x : Code) (st : St) (Q : Out → St → Prop) : Prop := Wp C K fr b x st (loopQ C K fr b x Q)
theorem wq_loop (x : Code) (st : St) : Wp C K fr b (.loop x) st Q = WpL C K fr b x (canon C fr b st) Q := by
  refine propext ⟨fun ⟨n, o, st', h, hq⟩ => ?_, fun ⟨n, o, st', h, hq⟩ => ?_⟩
  · cases n with
    | zero => simp [exec] at h
    | succ n =>
      simp only [exec, fSt_eq] at h
      cases hx : exec C K fr n b x (canon C fr b st) with
      | err e => rw [hx] at h; cases h
      | ok r =>
        rw [hx] at h
        obtain ⟨o1, st1⟩ := r
        refine ⟨n, o1, st1, hx, ?_⟩
        cases o1 <;> simp only [outSeq] at h
        · exact ⟨n, o, st', h, hq⟩
        all_goals (cases h; exact hq)
  · cases o with
    | normal =>
      obtain ⟨m, o2, st2, h2, hq2⟩ := hq
      refine ⟨max n m + 1, o2, st2, ?_, hq2⟩
      simp only [exec, fSt_eq, exec_up h (Nat.le_max_left n m), outSeq, exec_up h2 (Nat.le_max_right n m)]
    | _ => exact ⟨n + 1, _, st', by simp only [exec, fSt_eq, h, outSeq], hq⟩
theorem loopQ_normal (x : Code) (st : St) : loopQ C K fr b x Q .normal st = Wp C K fr b (.loop x) st Q := rfl
theorem loopQ_exit (x : Code) (k : Nat) (st : St) : loopQ C K fr b x Q (.exit k) st = Q (.exit k) st := rfl
theorem loopQ_ret (x : Code) (st : St) : loopQ C K fr b x Q .ret st = Q .ret st := rfl
theorem loopQ_pan (x : Code) (v : AV) (st : St) : loopQ C K fr b x Q (.pan v) st = Q (.pan v) st := rfl
theorem WpL_run (x : Code) (st : St) : WpL C K fr b x st Q = Wp C K fr b x st (loopQ C K fr b x Q) := rfl
structure Later (p : Prop) : Prop where
  out : p
theorem rounds {α : Type} {x : Code} (S : α → St) (Inv : α → Prop) (m : α → Nat) (a : α) (h0 : Inv a) (step : ∀ a, Inv a → Later (∀ a', m a' < m a → Inv a' → WpL C K fr b x (S a') Q) → Wp C K fr b x (S a) (loopQ C K fr b x Q)) : WpL C K fr b x (S a) Q := by
  suffices h : ∀ k a, m a < k → Inv a → WpL C K fr b x (S a) Q from h _ a (Nat.lt_succ_self _) h0
  intro k
  induction k with
  | zero => intro a ha; omega
  | succ k ih => exact fun a ha hi => step a hi ⟨fun a' h1 h2 => ih a' (by omega) h2⟩
end Go.Abs
end
section
namespace Go.Abs
variable {P : Program} {C : Cfg} {K : Oracle} {fr : Fr} {b n i : Nat} {Q : Out → St → Prop}
variable {ops : Array Oper} {al : Nat → Bool} {l : List Oper} {e : Env} {h : Heap} {bs : Nat} {ds : List Df} {ps : List (Nat × Nat)} {fps : List Fp}
def guardW (e : Env) : Option (Option Tmp) → AV
  | some (some t) => e.get t
  | _ => .undef
def guardV (ops : Array Oper) (e : Env) (j : Nat) : AV := guardW e ((ops[j]?).map (·.dst))
theorem guardW_some (e : Env) (t : Tmp) : guardW e (some (some t)) = e.get t := rfl
theorem guardV_arr (l : List Oper) (e : Env) (j : Nat) : guardV l.toArray e j = guardW e ((l[j]?).map (·.dst)) := by
  simp only [guardV, List.getElem?_toArray]
theorem q_guard (dst : Option Tmp) (op : Op) (ty : TypeId) (pos : String) (af : Array Edge) (j : Nat) (want : Bool) :
    opsP C K fr ops b n al (⟨dst, op, ty, pos, af, some (j, want)⟩ :: l) i ⟨e, h, bs, ds⟩ Q = guardP C K fr ops b n al l i dst op ⟨e, h, bs, ds⟩ want Q (guardV ops e j) := by
  rw [opsP_cons]
  simp only [stepOp, guardOf, guardV]
  cases hj : ops[j]? with
  | none => simp [guardW, guardP, stepP]
  | some o =>
    cases hd : o.dst with
    | none => simp [guardW, guardP, stepP, hd]
    | some t =>
      simp only [Option.bind_some, hd, Option.map_some, guardW]
      cases hv : Env.get e t with
      | d x => cases x with
        | bool c =>
          simp only [guardP]
          cases (c == want) <;> simp only [stepP, fEnv0_eq]
        | _ => rfl
      | tup vs => cases vs <;> simp only [guardP, stepP, fEnv0_eq]
      | _ => rfl
theorem get_cons (k : Nat) (v : AV) (e : Env) (t : Nat) : Env.get ((k, v) :: e) t = if k = t then v else Env.get e t := by
  rw [Env.get]
  cases h : Nat.beq k t with
  | true => rw [if_pos (Nat.eq_of_beq_eq_true h)]
  | false => rw [if_neg (Nat.ne_of_beq_eq_false h)]
theorem putE_some (e : Env) (t : Tmp) (v : AV) : putE e (some t) v = (t, v) :: e := rfl
theorem putE_none (e : Env) (v : AV) : putE e none v = e := rfl
theorem ev_tmp (e : Nat → AV) (t : Tmp) : ev e (.tmp t) = e t := rfl
theorem ev_func (e : Nat → AV) (f : FuncId) : ev e (.func f) = .fn f [] [] := rfl
theorem ev_int (e : Nat → AV) (k : IntKind) (m : Int) : ev e (.const (.int k m)) = .d (.int k m) := rfl
theorem ev_bool (e : Nat → AV) (c : Bool) : ev e (.const (.bool c)) = .d (.bool c) := rfl
theorem ev_string (e : Nat → AV) (s : ByteArray) : ev e (.const (.string s)) = .d (.str s) := rfl
theorem ev_nils (e : Nat → AV) : ev e (.const (.slice none 0 0)) = .nils := rfl
theorem ev_nilp (e : Nat → AV) : ev e (.const (.pointer none)) = .d .nilp := rfl
theorem ev_nilf (e : Nat → AV) : ev e (.const .nilFunc) = .d .nilf := rfl
theorem ev_nili (e : Nat → AV) : ev e (.const .nilIface) = .d .nili := rfl
theorem ev_nilm (e : Nat → AV) : ev e (.const (.map none)) = .d .nilm := rfl
theorem wok_none (δ : Heap) : wok none δ = true := by cases δ <;> rfl
theorem b_add (k : IntKind) (a c : Int) : intBin .add k a c = some (.d (.int k (k.wrap (a + c)))) := rfl
theorem b_sub (k : IntKind) (a c : Int) : intBin .sub k a c = some (.d (.int k (k.wrap (a - c)))) := rfl
theorem b_mul (k : IntKind) (a c : Int) : intBin .mul k a c = some (.d (.int k (k.wrap (a * c)))) := rfl
theorem b_eql (k : IntKind) (a c : Int) : intBin .eql k a c = some (.d (.bool (decide (a = c)))) := by
  simp only [intBin]; congr
theorem b_neq (k : IntKind) (a c : Int) : intBin .neq k a c = some (.d (.bool (!decide (a = c)))) := by
  simp only [intBin]; congr
theorem b_lss (k : IntKind) (a c : Int) : intBin .lss k a c = some (.d (.bool (decide (a < c)))) := rfl
theorem b_leq (k : IntKind) (a c : Int) : intBin .leq k a c = some (.d (.bool (decide (a ≤ c)))) := rfl
theorem b_gtr (k : IntKind) (a c : Int) : intBin .gtr k a c = some (.d (.bool (decide (c < a)))) := rfl
theorem b_geq (k : IntKind) (a c : Int) : intBin .geq k a c = some (.d (.bool (decide (c ≤ a)))) := rfl
theorem b_rem (k : IntKind) (a c : Int) : intBin .rem k a c = if c = 0 then none else some (.d (.int k (a.tmod c))) := rfl
theorem v_int (op : BinOp) (k : IntKind) (a c : Int) (t : Option TI) : binV op (.d (.int k a)) (.d (.int k c)) t = intBin op k a c := by
  simp only [binV, if_true]
theorem condP_dec {x y : Code} {st : St} {p : Prop} [Decidable p] (h1 : p → Wp C K fr b x st Q) (h2 : ¬ p → Wp C K fr b y st Q) : condP C K fr b x y st Q (.d (.bool (decide p))) := by
  by_cases hp : p
  · rw [decide_eq_true hp]; exact h1 hp
  · rw [decide_eq_false hp]; exact h2 hp
theorem condP_not (x y : Code) (st : St) (t : Bool) : condP C K fr b x y st Q (.d (.bool (!t))) = condP C K fr b y x st Q (.d (.bool t)) := by
  cases t <;> rfl
theorem guardP_dec {dst : Option Tmp} {op : Op} {st : St} {want : Bool} {p : Prop} [Decidable p] (h1 : p → guardP C K fr ops b n al l i dst op st want Q (.d (.bool true))) (h2 : ¬ p → guardP C K fr ops b n al l i dst op st want Q (.d (.bool false))) : guardP C K fr ops b n al l i dst op st want Q (.d (.bool (decide p))) := by
  by_cases hp : p
  · rw [decide_eq_true hp]; exact h1 hp
  · rw [decide_eq_false hp]; exact h2 hp
theorem guardP_tup (dst : Option Tmp) (op : Op) (want : Bool) : guardP C K fr ops b n al l i dst op ⟨e, h, bs, ds⟩ want Q (.tup []) = opsP C K fr ops b n al l (i + 1) ⟨putE e dst (.tup []), h, bs, ds⟩ Q := rfl
def drawP (C : Cfg) (K : Oracle) (fr : Fr) (ops : Array Oper) (b n id : Nat) (l : List Oper) (st : St) (Q : Out → St → Prop) : List (Nat × Nat) → Prop
  | [] => opsP C K fr ops b n (fun i => C.alone fr.f id i) l 0 st Q
  | p :: ps => opsF C K fr ops b n (fun i => C.alone fr.f id i) (p :: ps) [] l 0 st Q
theorem wq_drawn (id : Nat) (ops : Array Oper) (e : Env) (h : Heap) (bs : Nat) (ds : List Df) : Wp C K fr b (.region id ops true) ⟨e, h, bs, ds⟩ Q = drawP C K fr ops bs ops.size id ops.toList ⟨e, h, bs, ds⟩ Q (C.pairs fr.f id) := by
  cases hp : C.pairs fr.f id with
  | nil => rw [wq_draw0 id ops e h bs ds hp]; rfl
  | cons p ps => rw [wq_draw id ops e h bs ds hp]; rfl
theorem drawP_nil (id : Nat) (st : St) : drawP C K fr ops b n id l st Q [] = opsP C K fr ops b n (fun i => C.alone fr.f id i) l 0 st Q := rfl
theorem drawP_cons (id : Nat) (st : St) (p : Nat × Nat) : drawP C K fr ops b n id l st Q (p :: ps) = opsF C K fr ops b n (fun i => C.alone fr.f id i) (p :: ps) [] l 0 st Q := rfl
theorem endP_ret {prot : Option (List Nat)} {rs : List ResultVar} {π : List Nat} {raw : Bool} {Post : COut → Heap → Prop} : endP C prot rs π raw Post .ret ⟨e, h, bs, ds⟩ = leaveP C rs π raw e Post (leave C prot ds none h) := rfl
theorem endP_normal {prot : Option (List Nat)} {rs : List ResultVar} {π : List Nat} {raw : Bool} {Post : COut → Heap → Prop} : endP C prot rs π raw Post .normal ⟨e, h, bs, ds⟩ = leaveP C rs π raw e Post (leave C prot ds none h) := rfl
theorem endP_pan {prot : Option (List Nat)} {rs : List ResultVar} {π : List Nat} {raw : Bool} {Post : COut → Heap → Prop} (v : AV) : endP C prot rs π raw Post (.pan v) ⟨e, h, bs, ds⟩ = leaveP C rs π raw e Post (leave C prot ds (some v) h) := rfl
theorem leave_nil (prot : Option (List Nat)) (p : Option AV) (h : Heap) : leave C prot [] p h = .ok (p, h) := rfl
theorem leave_mark (prot : Option (List Nat)) (p : Option AV) (h : Heap) (id : Id) (l : List Df) : leave C prot (.mark id :: l) p h = leave C prot l p h := rfl
theorem leaveP_ret {rs : List ResultVar} {π : List Nat} {raw : Bool} {Post : COut → Heap → Prop} : leaveP C rs π raw e Post (.ok (none, h)) = valP h π raw Post (resV C e h rs) := rfl
theorem leaveP_pan {rs : List ResultVar} {π : List Nat} {raw : Bool} {Post : COut → Heap → Prop} (v : AV) : leaveP C rs π raw e Post (.ok (some v, h)) = Post (.pan v) h := rfl
theorem valP_raw {π : List Nat} {Post : COut → Heap → Prop} (v : AV) : valP h π true Post (some v) = Post (.ret v) h := rfl
theorem valP_own {k : Nat} {π : List Nat} {Post : COut → Heap → Prop} (v : AV) : valP h (k :: π) false Post (some v) = Post (.ret v) h := rfl
def frzV (Post : COut → Heap → Prop) : Option AV → Prop
  | some v => Post (.ret v) []
  | none => False
theorem valP_frz {Post : COut → Heap → Prop} (v : AV) : valP h [] false Post (some v) = frzV Post (frz h.get v) := by
  simp only [valP]
  cases frz h.get v <;> rfl
theorem frzV_some {Post : COut → Heap → Prop} (v : AV) : frzV Post (some v) = Post (.ret v) [] := rfl
theorem resV_none : resV C e h [] = some (.tup []) := rfl
theorem resV_tmp (t : Tmp) : resV C e h [.tmp t] = some (e.get t) := rfl
def tupV : List AV → Option (List AV) → Option AV
  | l, some vs => some (.tup (l ++ vs))
  | _, none => none
theorem resV_more (r r' : ResultVar) (rs : List ResultVar) : resV C e h (r :: r' :: rs) = (mapO (resultOne C ⟨e, h, 0, []⟩) (r :: r' :: rs)).map .tup := by
  unfold resV
  simp only [mapO]
  cases resultOne C ⟨e, h, 0, []⟩ r with
  | none => rfl
  | some y => cases resultOne C ⟨e, h, 0, []⟩ r' with
    | none => rfl
    | some z => cases mapO (resultOne C ⟨e, h, 0, []⟩) rs <;> rfl
theorem resV_cell (a : Tmp) (t : TypeId) : resV C e h [.cell a t] = (C.T t).bind fun i => loadV h.get i (e.get a) := by
  unfold resV
  simp only [mapO, resultOne]
  cases (C.T t).bind fun i => loadV h.get i (e.get a) <;> rfl
theorem resultOne_tmp (t : Tmp) : resultOne C ⟨e, h, bs, ds⟩ (.tmp t) = some (e.get t) := rfl
theorem resultOne_cell (a : Tmp) (t : TypeId) : resultOne C ⟨e, h, bs, ds⟩ (.cell a t) = (C.T t).bind fun i => loadV h.get i (e.get a) := rfl
theorem mapO_nil {α β : Type} (f : α → Option β) : mapO f [] = some [] := rfl
theorem mapO_cons {α β : Type} (f : α → Option β) (x : α) (l : List α) : mapO f (x :: l) = (f x).bind fun y => (mapO f l).map (y :: ·) := by
  simp only [mapO]
  cases f x with
  | none => rfl
  | some y => cases mapO f l <;> rfl
theorem guardP_nt (dst : Option Tmp) (op : Op) (st : St) (t : Bool) : guardP C K fr ops b n al l i dst op st true Q (.d (.bool (!t))) = guardP C K fr ops b n al l i dst op st false Q (.d (.bool t)) := by
  cases t <;> rfl
theorem guardP_nf (dst : Option Tmp) (op : Op) (st : St) (t : Bool) : guardP C K fr ops b n al l i dst op st false Q (.d (.bool (!t))) = guardP C K fr ops b n al l i dst op st true Q (.d (.bool t)) := by
  cases t <;> rfl
theorem frz_tup (g : G) (vs : List AV) : frz g (.tup vs) = (frzL g vs).map .tup := rfl
theorem frz_one (g : G) (v : AV) (hv : ∀ vs, v ≠ .tup vs) : frz g v = frz1 g v := by
  cases v <;> first | rfl | exact absurd rfl (hv _)
theorem frz_d (g : G) (x : Dat) : frz g (.d x) = some (.d x) := rfl
theorem frz_agg (g : G) (cs : List AV) : frz g (.agg cs) = (frzDs g cs).map .agg := rfl
theorem frz_nils (g : G) : frz g .nils = some (.d (.lst [])) := rfl
theorem frz_emp (g : G) : frz g .emp = some (.d (.lst [])) := rfl
theorem frz_osl (g : G) (id : Id) (off m : Nat) : frz g (.osl id off m) = (frzD g (.osl id off m)).map .d := rfl
theorem is_self : ∀ (a : Id), Id.is a a = true
  | [] => rfl
  | n :: l => by simp [Id.is, is_self l]
theorem is_cons (n m : Nat) (l k : Id) : Id.is (n :: l) (m :: k) = if n = m then Id.is l k else false := by
  rw [Id.is]
  cases h : Nat.beq n m with
  | true => rw [if_pos (Nat.eq_of_beq_eq_true h)]
  | false => rw [if_neg (Nat.ne_of_beq_eq_false h)]
theorem is_nil_cons (m : Nat) (k : Id) : Id.is [] (m :: k) = false := rfl
theorem is_cons_nil (m : Nat) (k : Id) : Id.is (m :: k) [] = false := rfl
theorem heap_nil (id : Id) : Heap.get [] id = none := rfl
theorem heap_cons (k : Id) (o : Obj) (h : Heap) (id : Id) : Heap.get ((k, o) :: h) id = if Id.is k id = true then some o else Heap.get h id := by
  rw [Heap.get]
  cases Id.is k id <;> rfl
theorem put_nil (id : Id) (o : Obj) : Heap.put [] id o = [(id, o)] := rfl
theorem put_cons (k : Id) (x : Obj) (h : Heap) (id : Id) (o : Obj) : Heap.put ((k, x) :: h) id o = if Id.is k id = true then (k, o) :: h else (k, x) :: Heap.put h id o := by
  rw [Heap.put]
  cases Id.is k id <;> rfl
theorem puts_cons (h : Heap) (p : Id × Obj) (δ : Heap) : Heap.puts h (p :: δ) = Heap.puts (h.put p.1 p.2) δ := rfl
theorem puts_nil (h : Heap) : Heap.puts h [] = h := rfl
def canonL (π : List Nat) (e : Env) (h : Heap) (l : List Id) : St :=
  { env := e.map fun p => (p.1, ren (newName π l 0) p.2), heap := pickObjs h (newName π l 0) l, base := l.length, defs := [] }
def idsE : Env → List Id
  | [] => []
  | p :: e => idsOf p.2 ++ idsE e
theorem idsE_eq (e : Env) : (e.flatMap fun p => idsOf p.2) = idsE e := by
  induction e with
  | nil => rfl
  | cons p e ih => rw [List.flatMap_cons, ih]; rfl
def liveE (e : Env) : List Nat → Env
  | [] => []
  | t :: l => (t, e.get t) :: liveE e l
theorem liveE_eq (e : Env) (l : List Nat) : (l.map fun t => (t, e.get t)) = liveE e l := by
  induction l with
  | nil => rfl
  | cons p e ih => rw [List.map_cons, ih]; rfl
def canonV (π : List Nat) (h : Heap) (e : Env) : St := canonL π e h (reachFrom h 1000 (addIds [] (idsE e)) 0)
theorem canon_own (f : FuncId) (π : List Nat) (prot : Option (List Nat)) (rnd : Bool) (nt : Nat) : canon C ⟨f, π, false, prot, rnd, nt⟩ b ⟨e, h, bs, []⟩ = canonV π h (liveE e (C.live f b)) := by
  simp only [canon, liveE_eq, idsE_eq, canonV, canonL]
  rfl
theorem canon_raw (f : FuncId) (π : List Nat) (prot : Option (List Nat)) (rnd : Bool) (nt : Nat) : canon C ⟨f, π, true, prot, rnd, nt⟩ b ⟨e, h, bs, ds⟩ = ⟨liveE e (C.live f b), h, bs, ds⟩ := by
  simp only [canon, liveE_eq]
  rfl
theorem canon_defs (d : Df) : canon C fr b ⟨e, h, bs, d :: ds⟩ = ⟨liveE e (C.live fr.f b), h, bs, d :: ds⟩ := by
  simp only [canon, liveE_eq, List.isEmpty_cons, Bool.not_false, Bool.or_true, if_true]
theorem addId_eq (l : List Id) (id : Id) : addId l id = if (l.any (Id.is id)) = true then l else l ++ [id] := by
  rw [addId]
  cases l.any (Id.is id) <;> rfl
theorem reach_eq (h : Heap) (n : Nat) (l : List Id) (i : Nat) : reachFrom h (n + 1) l i = match l[i]? with
    | some id => reachFrom h n (addIds l (objIds (h.get id))) (i + 1)
    | none => l := rfl
def tagOf (id : Id) : Nat := match id with | 0 :: _ => 0 | _ => 1
theorem newName_eq (π : List Nat) (x : Id) (r : List Id) (n : Nat) (id : Id) : newName π (x :: r) n id = if Id.is x id = true then some (tagOf id :: n :: π) else newName π r (n + 1) id := by
  have : newName π (x :: r) n id = match Id.is x id with | true => some (tagOf id :: n :: π) | false => newName π r (n + 1) id := by
    conv => lhs; unfold newName
    unfold tagOf
    cases id with
    | nil => rfl
    | cons a l => cases a <;> rfl
  rw [this]
  cases Id.is x id <;> rfl
theorem tagOf_box (l : Id) : tagOf (0 :: l) = 0 := rfl
theorem tagOf_arr (l : Id) : tagOf (1 :: l) = 1 := rfl
def lstO (sz : Nat) : Option (List Dat) → Option Eff
  | some c => if c.length = sz then some ⟨.iptr c, []⟩ else none
  | none => none
theorem idx_lst (g : G) (m : Int) (es : List (List Dat)) (j : TI) (hm : 0 ≤ m) : idxAt g m (.d (.lst es)) j = lstO j.size es[m.toNat]? := by
  simp only [idxAt, if_pos hm]
  cases es[m.toNat]? with
  | none => rfl
  | some c =>
    simp only [lstO]
    cases h : Nat.beq c.length j.size with
    | true => rw [if_pos (Nat.eq_of_beq_eq_true h)]
    | false => rw [if_neg (Nat.ne_of_beq_eq_false h)]
theorem idx_osl (g : G) (m : Int) (id : Id) (off len : Nat) (j : TI) (hm : 0 ≤ m) : idxAt g m (.osl id off len) j = if m.toNat < len then (match g id with
        | some (.darr sz es) => if sz = j.size ∧ off + m.toNat < es.length then some ⟨.eptr id (off + m.toNat) 0, []⟩ else none
        | some (.fro sz es) => if sz = j.size ∧ off + m.toNat < es.length then some ⟨.eptr id (off + m.toNat) 0, []⟩ else none
        | some (.arr sz es) => if sz = j.size ∧ off + m.toNat < es.length then some ⟨.eptr id (off + m.toNat) 0, []⟩ else none
        | _ => none) else none := by
  simp only [idxAt, if_pos hm]
  rfl
theorem lstO_some (sz : Nat) (c : List Dat) : lstO sz (some c) = if c.length = sz then some ⟨.iptr c, []⟩ else none := rfl
theorem plainP_at {α : Type} {f : α → List Dat} {l' : List α} {sz j : Nat} {dst : Option Tmp} (hj : j < l'.length) (hx : ∀ x, l'[j]? = some x → plainP C K fr ops b n al l i dst e h bs ds Q (lstO sz (some (f x)))) : plainP C K fr ops b n al l i dst e h bs ds Q (lstO sz (Option.map f l'[j]?)) := by
  have := hx l'[j] (List.getElem?_eq_getElem hj)
  rwa [List.getElem?_eq_getElem hj]
theorem frzC_d (g : G) (x : Dat) : frzC g (.d x) = some x := rfl
theorem frzC_nils (g : G) : frzC g .nils = some (.lst []) := rfl
theorem frzC_emp (g : G) : frzC g .emp = some (.lst []) := rfl
theorem frzD_d (g : G) (x : Dat) : frzD g (.d x) = some x := rfl
theorem frzD_nils (g : G) : frzD g .nils = some (.lst []) := rfl
theorem frzD_emp (g : G) : frzD g .emp = some (.lst []) := rfl
theorem frzD_ptr (g : G) (id : Id) (off : Nat) : frzD g (.ptr id off) = none := rfl
theorem frzD_mp (g : G) (id : Id) : frzD g (.mp id) = none := rfl
theorem frzD_yld (g : G) (id : Id) : frzD g (.yld id) = none := rfl
theorem frzD_fn (g : G) (f : FuncId) (a c : List AV) : frzD g (.fn f a c) = none := rfl
def frzOb (g : G) (off m : Nat) : Option Obj → Option Dat
  | some (.arr _ es) => (frzEs g es).bind fun ds => (seg ds off m).map .lst
  | some (.darr _ es) => (seg es off m).map .lst
  | some (.fro _ es) => (seg es off m).map .lst
  | _ => none
theorem frzD_osl (g : G) (id : Id) (off m : Nat) : frzD g (.osl id off m) = frzOb g off m (g id) := by
  simp only [frzD, frzC]
  cases h : g id with
  | none => rfl
  | some o => cases o with
    | arr sz es =>
      simp only [frzOb]
      cases frzEs g es <;> rfl
    | _ => rfl
theorem frzOb_arr (g : G) (off m sz : Nat) (es : List (List AV)) : frzOb g off m (some (.arr sz es)) = (frzEs g es).bind fun ds => (seg ds off m).map .lst := rfl
theorem frzOb_darr (g : G) (off m sz : Nat) (es : List (List Dat)) : frzOb g off m (some (.darr sz es)) = (seg es off m).map .lst := rfl
theorem frzOb_fro (g : G) (off m sz : Nat) (es : List (List Dat)) : frzOb g off m (some (.fro sz es)) = (seg es off m).map .lst := rfl
theorem frzDs_nil (g : G) : frzDs g [] = some [] := rfl
def frzDs2 : Option Dat → Option (List AV) → Option (List AV)
  | some x, some xs => some (.d x :: xs)
  | _, _ => none
theorem frzDs2_some (x : Dat) (xs : List AV) : frzDs2 (some x) (some xs) = some (.d x :: xs) := rfl
theorem frzDs2_none (xs : Option (List AV)) : frzDs2 none xs = none := rfl
theorem frzDs_cons (g : G) (v : AV) (vs : List AV) : frzDs g (v :: vs) = frzDs2 (frzD g v) (frzDs g vs) := by
  simp only [frzDs]
  cases frzD g v <;> cases frzDs g vs <;> rfl
def frzL2 : Option AV → Option (List AV) → Option (List AV)
  | some x, some xs => some (x :: xs)
  | _, _ => none
theorem frzL2_some (x : AV) (xs : List AV) : frzL2 (some x) (some xs) = some (x :: xs) := rfl
theorem frzL2_none (xs : Option (List AV)) : frzL2 none xs = none := rfl
theorem frzL2_none2 (x : Option AV) : frzL2 x none = none := by cases x <;> rfl
theorem frzL_nil (g : G) : frzL g [] = some [] := by simp only [frzL]
theorem frzL_cons (g : G) (v : AV) (vs : List AV) : frzL g (v :: vs) = frzL2 (frz1 g v) (frzL g vs) := by
  simp only [frzL]
  cases frz1 g v <;> cases frzL g vs <;> rfl
theorem frz1_d (g : G) (x : Dat) : frz1 g (.d x) = some (.d x) := rfl
theorem frz1_agg (g : G) (cs : List AV) : frz1 g (.agg cs) = (frzDs g cs).map .agg := rfl
theorem frz1_nils (g : G) : frz1 g .nils = some (.d (.lst [])) := rfl
theorem frz1_emp (g : G) : frz1 g .emp = some (.d (.lst [])) := rfl
theorem frz1_ptr (g : G) (id : Id) (off : Nat) : frz1 g (.ptr id off) = none := rfl
theorem frz1_mp (g : G) (id : Id) : frz1 g (.mp id) = none := rfl
theorem frz1_yld (g : G) (id : Id) : frz1 g (.yld id) = none := rfl
theorem frz1_fn (g : G) (f : FuncId) : frz1 g (.fn f [] []) = some (.fn f [] []) := rfl
theorem frz1_osl (g : G) (id : Id) (off m : Nat) : frz1 g (.osl id off m) = (frzD g (.osl id off m)).map .d := rfl
theorem frz1_ifaceA (g : G) (t : TypeId) (cs : List AV) : frz1 g (.iface t (.agg cs)) = (frzDs g cs).map fun c => .iface t (.agg c) := rfl
theorem frz1_ifaceD (g : G) (t : TypeId) (x : Dat) : frz1 g (.iface t (.d x)) = some (.iface t (.d x)) := rfl
theorem flat_d (x : Dat) : flat (.d x) = flatD x := by cases x <;> rfl
theorem flat_nils : flat .nils = true := by simp [flat]
theorem flat_emp : flat .emp = true := by simp [flat]
theorem flat_agg (cs : List AV) : flat (.agg cs) = flatL cs := by cases cs <;> rfl
theorem flat_tup (cs : List AV) : flat (.tup cs) = flatL cs := by cases cs <;> rfl
theorem flat_osl (id : Id) (off m : Nat) : flat (.osl id off m) = false := by cases id <;> rfl
theorem flat_ptr (id : Id) (off : Nat) : flat (.ptr id off) = false := by cases id <;> rfl
theorem flat_ifaceA (t : TypeId) (cs : List AV) : flat (.iface t (.agg cs)) = flatL cs := by cases cs <;> rfl
theorem flat_ifaceD (t : TypeId) (x : Dat) : flat (.iface t (.d x)) = flatD x := by cases x <;> rfl
theorem flatL_nil : flatL [] = true := rfl
theorem flatL_d (x : Dat) (vs : List AV) : flatL (.d x :: vs) = (flatD x && flatL vs) := rfl
theorem flatL_agg (x : List AV) (vs : List AV) : flatL (.agg x :: vs) = false := by simp only [flatL]
theorem flatL_osl (id : Id) (off m : Nat) (vs : List AV) : flatL (.osl id off m :: vs) = false := by simp only [flatL]
theorem flatL_ptr (id : Id) (off : Nat) (vs : List AV) : flatL (.ptr id off :: vs) = false := by simp only [flatL]
theorem flatL_mp (id : Id) (vs : List AV) : flatL (.mp id :: vs) = false := by simp only [flatL]
theorem flatL_fn (f : FuncId) (a c vs : List AV) : flatL (.fn f a c :: vs) = false := by simp only [flatL]
theorem flatL_nils (vs : List AV) : flatL (.nils :: vs) = false := by simp only [flatL]
theorem flatL_emp (vs : List AV) : flatL (.emp :: vs) = false := by simp only [flatL]
theorem flat_mp (id : Id) : flat (.mp id) = false := by simp only [flat]
theorem flat_fn (f : FuncId) (a c : List AV) : flat (.fn f a c) = false := by simp only [flat]
theorem flatArr_tup (vs : List AV) (h : Heap) : flatArr (.tup vs) h = none := by simp only [flatArr]
theorem flatArr_agg (vs : List AV) (h : Heap) : flatArr (.agg vs) h = none := by simp only [flatArr]
theorem flatArr_ptr (id : Id) (off : Nat) (h : Heap) : flatArr (.ptr id off) h = none := by simp only [flatArr]
theorem flatArr_d (x : Dat) (h : Heap) : flatArr (.d x) h = none := by simp only [flatArr]
theorem flatArr_fn (f : FuncId) (a c : List AV) (h : Heap) : flatArr (.fn f a c) h = none := by simp only [flatArr]
theorem flatD_int (k : IntKind) (m : Int) : flatD (.int k m) = true := rfl
theorem flatD_bool (c : Bool) : flatD (.bool c) = true := rfl
theorem flatD_str (c : ByteArray) : flatD (.str c) = true := rfl
theorem flatD_lst (c : List (List Dat)) : flatD (.lst c) = false := rfl
theorem flatD_nilp : flatD .nilp = true := rfl
theorem flatD_nili : flatD .nili = true := rfl
theorem flatD_nilf : flatD .nilf = true := rfl
theorem flatD_nilm : flatD .nilm = true := rfl
theorem cells_agg (cs : List AV) : AV.cells (.agg cs) = cs := rfl
theorem cells_d (x : Dat) : AV.cells (.d x) = [.d x] := rfl
theorem cells_nils : AV.cells .nils = [.nils] := rfl
theorem cells_emp : AV.cells .emp = [.emp] := rfl
theorem cells_osl (id : Id) (off m : Nat) : AV.cells (.osl id off m) = [.osl id off m] := rfl
theorem cells_ptr (id : Id) (off : Nat) : AV.cells (.ptr id off) = [.ptr id off] := rfl
theorem cells_eptr (id : Id) (k off : Nat) : AV.cells (.eptr id k off) = [.eptr id k off] := rfl
theorem cells_fn (f : FuncId) (a c : List AV) : AV.cells (.fn f a c) = [.fn f a c] := rfl
theorem cells_mp (id : Id) : AV.cells (.mp id) = [.mp id] := rfl
theorem cells_iface (t : TypeId) (v : AV) : AV.cells (.iface t v) = [.iface t v] := rfl
theorem cells_iptr (c : List Dat) : AV.cells (.iptr c) = [.iptr c] := rfl
theorem cell_d (x : Dat) : AV.isCell (.d x) = true := rfl
theorem cell_nils : AV.isCell .nils = true := rfl
theorem cell_emp : AV.isCell .emp = true := rfl
theorem cell_osl (id : Id) (off m : Nat) : AV.isCell (.osl id off m) = true := rfl
theorem cell_ptr (id : Id) (off : Nat) : AV.isCell (.ptr id off) = true := rfl
theorem cell_eptr (id : Id) (k off : Nat) : AV.isCell (.eptr id k off) = true := rfl
theorem cell_fn (f : FuncId) (a c : List AV) : AV.isCell (.fn f a c) = true := rfl
theorem cell_mp (id : Id) : AV.isCell (.mp id) = true := rfl
theorem cell_iface (t : TypeId) (v : AV) : AV.isCell (.iface t v) = true := rfl
theorem v_aggE (a c : List AV) (i : TI) : binV .eql (.agg a) (.agg c) (some i) = (avEq i.kind (.agg a) (.agg c)).map fun t => .d (.bool t) := by
  simp only [binV]
  cases avEq i.kind (.agg a) (.agg c) <;> rfl
theorem v_aggN (a c : List AV) (i : TI) : binV .neq (.agg a) (.agg c) (some i) = (avEq i.kind (.agg a) (.agg c)).map fun t => .d (.bool (!t)) := by
  simp only [binV]
  cases avEq i.kind (.agg a) (.agg c) <;> rfl
theorem avEq_flat (ks : List TK) (a c : List AV) : avEq (.flat ks) (.agg a) (.agg c) = cellsEq ks a c := rfl
theorem cellsEq_nil : cellsEq [] [] [] = some true := rfl
def andO : Option Bool → Option Bool → Option Bool
  | some a, some c => some (a && c)
  | _, _ => none
theorem andO_some (a c : Bool) : andO (some a) (some c) = some (a && c) := rfl
theorem cellsEq_cons (t : TK) (ts : List TK) (x y : AV) (xs ys : List AV) : cellsEq (t :: ts) (x :: xs) (y :: ys) = andO (cellEq t x y) (cellsEq ts xs ys) := by
  simp only [cellsEq]
  cases cellEq t x y <;> cases cellsEq ts xs ys <;> rfl
theorem cellEq_int (k : IntKind) (a c : Int) : cellEq .int (.d (.int k a)) (.d (.int k c)) = some (decide (a = c)) := by
  simp only [cellEq, if_true]
  congr
theorem cellEq_bool (a c : Bool) : cellEq .bool (.d (.bool a)) (.d (.bool c)) = some (a == c) := rfl
theorem cellEq_str (a c : ByteArray) : cellEq .str (.d (.str a)) (.d (.str c)) = some (a == c) := rfl
attribute [go_sem] v_aggE v_aggN avEq_flat cellsEq_nil andO_some cellsEq_cons cellEq_int cellEq_bool cellEq_str
theorem panic_iface (t : TypeId) (u : AV) (hu : flat (.iface t u) = true) : stepP C K fr ops b n al l i Q (doPanic ⟨e, h, bs, ds⟩ (.iface t u)) = (al i = true ∧ Q (.pan (.iface t u)) ⟨e, h, b + n, ds⟩) := by
  simp only [doPanic, hu, stepP]
def wantR (v : AV) (t : Bool) : E (COut × Heap) := if t = true then .ok (.ret (.tup []), []) else .ok (.pan v, [])
theorem wantR_true (v : AV) : wantR v true = .ok (.ret (.tup []), []) := rfl
theorem wantR_false (v : AV) : wantR v false = .ok (.pan v, []) := rfl
theorem pureP_want {dst : Option Tmp} {az : List AV} {v : AV} {t : Bool} (h1 : t = true → pureP C K fr ops b n al l i az dst e h bs ds Q (wantR v true)) (h2 : t = false → pureP C K fr ops b n al l i az dst e h bs ds Q (wantR v false)) : pureP C K fr ops b n al l i az dst e h bs ds Q (wantR v t) := by
  cases t
  · exact h2 rfl
  · exact h1 rfl
theorem pureP_wantD {dst : Option Tmp} {az : List AV} {v : AV} {p : Prop} [Decidable p] (h1 : p → pureP C K fr ops b n al l i az dst e h bs ds Q (wantR v true)) (h2 : ¬ p → pureP C K fr ops b n al l i az dst e h bs ds Q (wantR v false)) : pureP C K fr ops b n al l i az dst e h bs ds Q (wantR v (decide p)) := by
  by_cases hp : p
  · rw [decide_eq_true hp]; exact h1 hp
  · rw [decide_eq_false hp]; exact h2 hp
attribute [go_sem] Nat.add_assoc
attribute [go_sem] nrm_ret nrm_pan Prod.mk.injEq panic_iface wantR_true wantR_false pureP_pan pureP_new
attribute [go_sem] wq_seq wq_cond wq_block wq_skip wq_label wq_ret wq_exit wq_region seqQ_normal seqQ_exit seqQ_ret seqQ_pan blockQ_normal blockQ_ret blockQ_pan blockQ_exit condP_true condP_false
  opsP_nil opsP_free q_guard guardP_tt guardP_ff guardP_tf guardP_ft
  g_move g_assign g_pick g_alloc g_box g_build g_buildSlice g_load g_store g_nilCheck g_binOp g_unOp g_iface g_assert g_makeFunc g_makeMap g_insert g_mapUpdate g_lookup g_makeSlice g_slice g_fieldAddr g_field g_indexAddr g_index g_extract g_builtin g_panic g_defer g_value callP_fn frzP_some plainP_same plainP_new
  putE_some putE_none ev_tmp ev_func ev_int ev_bool ev_string ev_nils ev_nilp ev_nilf ev_nili ev_nilm get_cons guardV_arr guardW_some
  paramEnv opPick opAlloc opBox opBuild opBuildSlice opLoad opStore opNilCheck opUn opNot opFieldAddr opField opIndexAddr opIndex opExtract opBuiltin opMax opMin idx_lst idx_osl lstO_some lenV loadV storeV splice seg mkAgg v_int b_add b_sub b_mul b_eql b_neq b_lss b_leq b_gtr b_geq b_rem wok_none endP_ret endP_normal endP_pan leave_nil leave_mark leaveP_ret leaveP_pan valP_raw valP_own valP_frz frzV_some resV_none resV_tmp resV_more resV_cell resultOne_tmp resultOne_cell mapO_nil mapO_cons guardP_nt guardP_nf guardP_tup frz_tup frz_d frz_agg frz_nils frz_emp frz_osl frzEs frzCs arrOf condP_not decide_true decide_false Bool.not_true Bool.not_false wq_drawn drawP_nil drawP_cons modeP_auto modeP_own pureP_flat Option.isSome_some cells_agg cells_d cells_nils cells_emp cells_osl cells_ptr cells_eptr cells_fn cells_mp cells_iface cells_iptr cell_d cell_nils cell_emp cell_osl cell_ptr cell_eptr cell_fn cell_mp cell_iface evParts fillParts puts_cons puts_nil put_nil put_cons heap_nil heap_cons is_self is_cons is_nil_cons is_cons_nil wq_loop loopQ_normal loopQ_exit loopQ_ret loopQ_pan canon_own canon_raw canon_defs canonV canonL idsE liveE addId_eq addIds reach_eq newName_eq tagOf_box tagOf_arr ren renL renObj pickObjs objIds idsOf idsL List.any_nil List.any_cons Bool.or_false Bool.false_or Bool.or_true Bool.true_or Bool.false_and Bool.and_false Int.toNat_natCast Int.natCast_nonneg List.getElem?_map List.getElem?_nil frzC_d frzC_nils frzC_emp frzD_d frzD_nils frzD_emp frzD_ptr frzD_mp frzD_yld frzD_fn frzD_osl frzOb_arr frzOb_darr frzOb_fro frzDs_nil frzDs2_some frzDs2_none frzDs_cons frzL2_some frzL2_none frzL2_none2 frzL_nil frzL_cons frz1_d frz1_agg frz1_nils frz1_emp frz1_ptr frz1_mp frz1_yld frz1_fn frz1_osl frz1_ifaceA frz1_ifaceD flat_d flat_nils flat_emp flat_agg flat_tup flat_osl flat_ptr flat_ifaceA flat_ifaceD flatL_nil flatL_d flatL_agg flatL_osl flatL_ptr flatL_mp flatL_fn flatL_nils flatL_emp flat_mp flat_fn flatArr_tup flatArr_agg flatArr_ptr flatArr_d flatArr_fn List.flatMap_cons List.flatMap_nil flatD_int flatD_bool flatD_str flatD_lst flatD_nilp flatD_nili flatD_nilf flatD_nilm
  List.foldl_cons List.foldl_nil List.map_cons List.map_nil List.length_cons List.length_nil List.length_map List.length_append List.length_singleton List.append_assoc List.all_cons List.all_nil Option.map_some Option.bind_some List.getElem?_cons_zero List.getElem?_cons_succ List.take_succ_cons List.take_zero List.drop_succ_cons List.drop_zero List.append_nil List.nil_append List.cons_append List.size_toArray Bool.and_true Bool.true_and true_and and_true
end Go.Abs
end
section
set_option linter.unusedSimpArgs false
set_option linter.unusedVariables false
namespace Go.Abs
variable {P : Program} {C : Cfg} {K : Oracle} {fr : Fr} {b n i : Nat} {Q : Out → St → Prop}
variable {ops : Array Oper} {al : Nat → Bool} {l : List Oper} {e : Env} {h : Heap} {bs : Nat} {ds : List Df} {ps : List (Nat × Nat)} {fps : List Fp}
def stepF (C : Cfg) (K : Oracle) (fr : Fr) (ops : Array Oper) (b n : Nat) (al : Nat → Bool) (ps : List (Nat × Nat)) (fps : List Fp) (l : List Oper) (i : Nat) (Q : Out → St → Prop) : Res → Prop
  | .ok st fp => opsF C K fr ops b n al ps (fps ++ [fp]) l (i + 1) st Q
  | .pan v st => al i = true ∧ pairsOk fps ps = true ∧ Q (.pan v) { st with base := b + n }
  | .err _ => False
def plainF (C : Cfg) (K : Oracle) (fr : Fr) (ops : Array Oper) (b n : Nat) (al : Nat → Bool) (ps : List (Nat × Nat)) (fps : List Fp) (l : List Oper) (i : Nat) (dst : Option Tmp) (e : Env) (h : Heap) (bs : Nat) (ds : List Df) (Q : Out → St → Prop) (rd : List Id) : Option Eff → Prop
  | some x => wok fr.prot x.δ = true ∧ opsF C K fr ops b n al ps (fps ++ [⟨some rd, some (x.δ.map (·.1))⟩]) l (i + 1) ⟨putE e dst x.v, h.puts x.δ, bs, ds⟩ Q
  | none => False
theorem opsF_nil : opsF C K fr ops b n al ps fps [] i ⟨e, h, bs, ds⟩ Q = (pairsOk fps ps = true ∧ Q .normal ⟨e, h, b + n, ds⟩) := by
  simp only [opsF, runOps, List.append_nil]
theorem opsF_cons (o : Oper) (st : St) : opsF C K fr ops b n al ps fps (o :: l) i st Q = stepF C K fr ops b n al ps fps l i Q (stepOp C K fr ops ((b + i) :: fr.π) o st) := by
  unfold opsF
  simp only [runOps, fNat_eq]
  cases hs : stepOp C K fr ops ((b + i) :: fr.π) o st with
  | err e => rfl
  | pan v st' =>
    simp only [stepF]
    cases al i <;> simp
  | ok st' fp =>
    simp only [stepF, opsF]
    cases hr : runOps C K fr ops b al l (i + 1) st' with
    | err e => rfl
    | ok r =>
      obtain ⟨⟨o, st2⟩, fps'⟩ := r
      cases o <;> simp only [consFp, List.append_assoc, List.cons_append, List.nil_append]
def guardX (C : Cfg) (K : Oracle) (fr : Fr) (ops : Array Oper) (b n : Nat) (al : Nat → Bool) (ps : List (Nat × Nat)) (fps : List Fp) (l : List Oper) (i : Nat) (dst : Option Tmp) (op : Op) (st : St) (want : Bool) (Q : Out → St → Prop) : AV → Prop
  | .d (.bool t) => match t == want with
    | true => stepF C K fr ops b n al ps fps l i Q (doOp C K fr ((b + i) :: fr.π) op dst st)
    | false => opsF C K fr ops b n al ps (fps ++ [⟨some [], some []⟩]) l (i + 1) { st with env := putE st.env dst (.tup []) } Q
  | .tup [] => opsF C K fr ops b n al ps (fps ++ [⟨some [], some []⟩]) l (i + 1) { st with env := putE st.env dst (.tup []) } Q
  | _ => False
theorem qF_guard (dst : Option Tmp) (op : Op) (ty : TypeId) (pos : String) (af : Array Edge) (j : Nat) (want : Bool) :
    opsF C K fr ops b n al ps fps (⟨dst, op, ty, pos, af, some (j, want)⟩ :: l) i ⟨e, h, bs, ds⟩ Q = guardX C K fr ops b n al ps fps l i dst op ⟨e, h, bs, ds⟩ want Q (guardV ops e j) := by
  rw [opsF_cons]
  simp only [stepOp, guardOf, guardV]
  cases hj : ops[j]? with
  | none => simp [guardW, guardX, stepF]
  | some o =>
    cases hd : o.dst with
    | none => simp [guardW, guardX, stepF, hd]
    | some t =>
      simp only [Option.bind_some, hd, Option.map_some, guardW]
      cases hv : Env.get e t with
      | d x => cases x with
        | bool c =>
          simp only [guardX]
          cases (c == want) <;> simp only [stepF, fEnv0_eq]
        | _ => rfl
      | tup vs => cases vs <;> simp only [guardX, stepF, fEnv0_eq]
      | _ => rfl
theorem guardX_tt (dst : Option Tmp) (op : Op) (st : St) : guardX C K fr ops b n al ps fps l i dst op st true Q (.d (.bool true)) = stepF C K fr ops b n al ps fps l i Q (doOp C K fr ((b + i) :: fr.π) op dst st) := rfl
theorem guardX_ff (dst : Option Tmp) (op : Op) (st : St) : guardX C K fr ops b n al ps fps l i dst op st false Q (.d (.bool false)) = stepF C K fr ops b n al ps fps l i Q (doOp C K fr ((b + i) :: fr.π) op dst st) := rfl
theorem guardX_tf (dst : Option Tmp) (op : Op) : guardX C K fr ops b n al ps fps l i dst op ⟨e, h, bs, ds⟩ true Q (.d (.bool false)) = opsF C K fr ops b n al ps (fps ++ [⟨some [], some []⟩]) l (i + 1) ⟨putE e dst (.tup []), h, bs, ds⟩ Q := rfl
theorem guardX_ft (dst : Option Tmp) (op : Op) : guardX C K fr ops b n al ps fps l i dst op ⟨e, h, bs, ds⟩ false Q (.d (.bool true)) = opsF C K fr ops b n al ps (fps ++ [⟨some [], some []⟩]) l (i + 1) ⟨putE e dst (.tup []), h, bs, ds⟩ Q := rfl
theorem guardX_tup (dst : Option Tmp) (op : Op) (want : Bool) : guardX C K fr ops b n al ps fps l i dst op ⟨e, h, bs, ds⟩ want Q (.tup []) = opsF C K fr ops b n al ps (fps ++ [⟨some [], some []⟩]) l (i + 1) ⟨putE e dst (.tup []), h, bs, ds⟩ Q := rfl
theorem guardX_split {dst : Option Tmp} {op : Op} {st : St} {want t : Bool} (h1 : t = true → guardX C K fr ops b n al ps fps l i dst op st want Q (.d (.bool true))) (h2 : t = false → guardX C K fr ops b n al ps fps l i dst op st want Q (.d (.bool false))) : guardX C K fr ops b n al ps fps l i dst op st want Q (.d (.bool t)) := by
  cases t
  · exact h2 rfl
  · exact h1 rfl
theorem guardX_dec {dst : Option Tmp} {op : Op} {st : St} {want : Bool} {p : Prop} [Decidable p] (h1 : p → guardX C K fr ops b n al ps fps l i dst op st want Q (.d (.bool true))) (h2 : ¬ p → guardX C K fr ops b n al ps fps l i dst op st want Q (.d (.bool false))) : guardX C K fr ops b n al ps fps l i dst op st want Q (.d (.bool (decide p))) := by
  by_cases hp : p
  · rw [decide_eq_true hp]; exact h1 hp
  · rw [decide_eq_false hp]; exact h2 hp
theorem guardX_nt (dst : Option Tmp) (op : Op) (st : St) (t : Bool) : guardX C K fr ops b n al ps fps l i dst op st true Q (.d (.bool (!t))) = guardX C K fr ops b n al ps fps l i dst op st false Q (.d (.bool t)) := by
  cases t <;> rfl
theorem guardX_nf (dst : Option Tmp) (op : Op) (st : St) (t : Bool) : guardX C K fr ops b n al ps fps l i dst op st false Q (.d (.bool (!t))) = guardX C K fr ops b n al ps fps l i dst op st true Q (.d (.bool t)) := by
  cases t <;> rfl
theorem opsF_free (dst : Option Tmp) (op : Op) (ty : TypeId) (pos : String) (af : Array Edge) (st : St) :
    opsF C K fr ops b n al ps fps (⟨dst, op, ty, pos, af, none⟩ :: l) i st Q = stepF C K fr ops b n al ps fps l i Q (doOp C K fr ((b + i) :: fr.π) op dst st) := by
  rw [opsF_cons]
  simp only [stepOp, guardOf]
theorem stepF_plain (dst : Option Tmp) (op : Op) (r : Option Eff) : stepF C K fr ops b n al ps fps l i Q (doPlain fr op dst ⟨e, h, bs, ds⟩ r) = plainF C K fr ops b n al ps fps l i dst e h bs ds Q (rdOf e.get h.get op) r := by
  cases r with
  | none => rfl
  | some x =>
    simp only [doPlain, plainF, fAV_eq, fHeap_eq, fEnv0_eq]
    cases hw : wok fr.prot x.δ with
    | false => simp [stepF]
    | true =>
      simp only [true_and, fPuts_eq, stepF]
theorem plainF_same (dst : Option Tmp) (v : AV) (rd : List Id) : plainF C K fr ops b n al ps fps l i dst e h bs ds Q rd (some ⟨v, []⟩) = opsF C K fr ops b n al ps (fps ++ [⟨some rd, some []⟩]) l (i + 1) ⟨putE e dst v, h, bs, ds⟩ Q := by
  have : wok fr.prot [] = true := by cases hp : fr.prot <;> rfl
  simp only [plainF, this, true_and]
  rfl
theorem plainF_new (dst : Option Tmp) (v : AV) (x : Id × Obj) (δ : Heap) (rd : List Id) : plainF C K fr ops b n al ps fps l i dst e h bs ds Q rd (some ⟨v, x :: δ⟩) = (wok fr.prot (x :: δ) = true ∧ opsF C K fr ops b n al ps (fps ++ [⟨some rd, some (x.1 :: δ.map (·.1))⟩]) l (i + 1) ⟨putE e dst v, h.puts (x :: δ), bs, ds⟩ Q) := rfl
section
variable (dst : Option Tmp) (ρ : List Nat)
theorem f_move (x : Operand) : stepF C K fr ops b n al ps fps l i Q (doOp C K fr ρ (.move x) dst ⟨e, h, bs, ds⟩) = opsF C K fr ops b n al ps (fps ++ [⟨some [], some []⟩]) l (i + 1) ⟨putE e dst (ev e.get x), h, bs, ds⟩ Q := by
  simp only [doOp, evalOp, stepF_plain, plainF_same, rdOf]
theorem f_assign (x : Operand) : stepF C K fr ops b n al ps fps l i Q (doOp C K fr ρ (.assign x) dst ⟨e, h, bs, ds⟩) = opsF C K fr ops b n al ps (fps ++ [⟨some [], some []⟩]) l (i + 1) ⟨putE e dst (ev e.get x), h, bs, ds⟩ Q := by
  simp only [doOp, evalOp, stepF_plain, plainF_same, rdOf]
theorem f_pick (c x y : Operand) : stepF C K fr ops b n al ps fps l i Q (doOp C K fr ρ (.pick c x y) dst ⟨e, h, bs, ds⟩) = plainF C K fr ops b n al ps fps l i dst e h bs ds Q ([]) (opPick (ev e.get c) (ev e.get x) (ev e.get y)) := by
  simp only [doOp, evalOp, stepF_plain, rdOf, opIds, Op.operands, List.flatMap_cons, List.flatMap_nil, List.append_nil]
theorem f_alloc (t : TypeId) : stepF C K fr ops b n al ps fps l i Q (doOp C K fr ρ (.alloc t) dst ⟨e, h, bs, ds⟩) = plainF C K fr ops b n al ps fps l i dst e h bs ds Q ([]) (opAlloc ρ (C.T t)) := by
  simp only [doOp, evalOp, stepF_plain, rdOf, opIds, Op.operands, List.flatMap_cons, List.flatMap_nil, List.append_nil]
theorem f_box (t : TypeId) (x : Operand) : stepF C K fr ops b n al ps fps l i Q (doOp C K fr ρ (.box t x) dst ⟨e, h, bs, ds⟩) = plainF C K fr ops b n al ps fps l i dst e h bs ds Q ([]) (opBox ρ (ev e.get x) (C.T t)) := by
  simp only [doOp, evalOp, stepF_plain, rdOf, opIds, Op.operands, List.flatMap_cons, List.flatMap_nil, List.append_nil]
theorem f_build (t : TypeId) (p : Array (Nat × Operand)) : stepF C K fr ops b n al ps fps l i Q (doOp C K fr ρ (.build t p) dst ⟨e, h, bs, ds⟩) = plainF C K fr ops b n al ps fps l i dst e h bs ds Q ([]) (opBuild (evParts e.get p) (C.T t)) := by
  simp only [doOp, evalOp, stepF_plain, rdOf, opIds, Op.operands, List.flatMap_cons, List.flatMap_nil, List.append_nil]
theorem f_buildSlice (t : TypeId) (m : Nat) (p : Array (Nat × Operand)) : stepF C K fr ops b n al ps fps l i Q (doOp C K fr ρ (.buildSlice t m p) dst ⟨e, h, bs, ds⟩) = plainF C K fr ops b n al ps fps l i dst e h bs ds Q (rdOf e.get h.get (.buildSlice t m p)) (opBuildSlice C.T h.get ρ m (evParts e.get p) (C.T t)) := by
  simp only [doOp, evalOp, stepF_plain]
theorem f_load (t : TypeId) (a : Operand) : stepF C K fr ops b n al ps fps l i Q (doOp C K fr ρ (.load t a) dst ⟨e, h, bs, ds⟩) = plainF C K fr ops b n al ps fps l i dst e h bs ds Q (idsOf (ev e.get a)) (opLoad h.get (ev e.get a) (C.T t)) := by
  simp only [doOp, evalOp, stepF_plain, rdOf, opIds, Op.operands, List.flatMap_cons, List.flatMap_nil, List.append_nil]
theorem f_store (t : TypeId) (a x : Operand) : stepF C K fr ops b n al ps fps l i Q (doOp C K fr ρ (.store t a x) dst ⟨e, h, bs, ds⟩) = plainF C K fr ops b n al ps fps l i dst e h bs ds Q (idsOf (ev e.get a) ++ idsOf (ev e.get x)) (opStore h.get (ev e.get a) (ev e.get x) (C.T t)) := by
  simp only [doOp, evalOp, stepF_plain, rdOf, opIds, Op.operands, List.flatMap_cons, List.flatMap_nil, List.append_nil]
theorem f_nilCheck (x : Operand) : stepF C K fr ops b n al ps fps l i Q (doOp C K fr ρ (.nilCheck x) dst ⟨e, h, bs, ds⟩) = plainF C K fr ops b n al ps fps l i dst e h bs ds Q ([]) (opNilCheck (ev e.get x)) := by
  simp only [doOp, evalOp, stepF_plain, rdOf, opIds, Op.operands, List.flatMap_cons, List.flatMap_nil, List.append_nil]
theorem f_binOp (op : BinOp) (t : TypeId) (x y : Operand) (u : TypeId) : stepF C K fr ops b n al ps fps l i Q (doOp C K fr ρ (.binOp op t x y u) dst ⟨e, h, bs, ds⟩) = plainF C K fr ops b n al ps fps l i dst e h bs ds Q ([]) ((binV op (ev e.get x) (ev e.get y) (C.T t)).map (⟨·, []⟩)) := by
  simp only [doOp, evalOp, stepF_plain, rdOf, opIds, Op.operands, List.flatMap_cons, List.flatMap_nil, List.append_nil]
theorem f_unOp (op : UnOp) (t : TypeId) (x : Operand) : stepF C K fr ops b n al ps fps l i Q (doOp C K fr ρ (.unOp op t x) dst ⟨e, h, bs, ds⟩) = plainF C K fr ops b n al ps fps l i dst e h bs ds Q ([]) (opUn op (ev e.get x)) := by
  simp only [doOp, evalOp, stepF_plain, rdOf, opIds, Op.operands, List.flatMap_cons, List.flatMap_nil, List.append_nil]
theorem f_iface (t : TypeId) (x : Operand) : stepF C K fr ops b n al ps fps l i Q (doOp C K fr ρ (.makeInterface t x) dst ⟨e, h, bs, ds⟩) = plainF C K fr ops b n al ps fps l i dst e h bs ds Q ([]) (opIface t (ev e.get x) (C.T t)) := by
  simp only [doOp, evalOp, stepF_plain, rdOf, opIds, Op.operands, List.flatMap_cons, List.flatMap_nil, List.append_nil]
theorem f_assert (x : Operand) (t u : TypeId) : stepF C K fr ops b n al ps fps l i Q (doOp C K fr ρ (.typeAssert x t u true) dst ⟨e, h, bs, ds⟩) = plainF C K fr ops b n al ps fps l i dst e h bs ds Q ([]) (opAssert u (ev e.get x) (C.T u)) := by
  simp only [doOp, evalOp, stepF_plain, rdOf, opIds, Op.operands, List.flatMap_cons, List.flatMap_nil, List.append_nil]
theorem f_makeFunc (f : Fn) (first cap : Array Operand) : stepF C K fr ops b n al ps fps l i Q (doOp C K fr ρ (.makeFunc f first cap) dst ⟨e, h, bs, ds⟩) = plainF C K fr ops b n al ps fps l i dst e h bs ds Q ([]) (opMakeFunc f (first.toList.map (ev e.get)) (cap.toList.map (ev e.get))) := by
  simp only [doOp, evalOp, stepF_plain, rdOf, opIds, Op.operands, List.flatMap_cons, List.flatMap_nil, List.append_nil]
theorem f_makeMap (t : TypeId) (r : Option Operand) : stepF C K fr ops b n al ps fps l i Q (doOp C K fr ρ (.makeMap t r) dst ⟨e, h, bs, ds⟩) = plainF C K fr ops b n al ps fps l i dst e h bs ds Q ([]) (opMakeMap ρ r) := by
  simp only [doOp, evalOp, stepF_plain, rdOf, opIds, Op.operands, List.flatMap_cons, List.flatMap_nil, List.append_nil]
theorem f_insert (t : TypeId) (m k v : Operand) : stepF C K fr ops b n al ps fps l i Q (doOp C K fr ρ (.insert t m k v) dst ⟨e, h, bs, ds⟩) = plainF C K fr ops b n al ps fps l i dst e h bs ds Q (idsOf (ev e.get m) ++ (idsOf (ev e.get k) ++ idsOf (ev e.get v))) (mapPut C.T h.get (C.T t) (ev e.get m) (ev e.get k) (ev e.get v)) := by
  simp only [doOp, evalOp, stepF_plain, rdOf, opIds, Op.operands, List.flatMap_cons, List.flatMap_nil, List.append_nil]
theorem f_mapUpdate (t : TypeId) (m k v : Operand) : stepF C K fr ops b n al ps fps l i Q (doOp C K fr ρ (.mapUpdate t m k v) dst ⟨e, h, bs, ds⟩) = plainF C K fr ops b n al ps fps l i dst e h bs ds Q (idsOf (ev e.get m) ++ (idsOf (ev e.get k) ++ idsOf (ev e.get v))) (mapPut C.T h.get (C.T t) (ev e.get m) (ev e.get k) (ev e.get v)) := by
  simp only [doOp, evalOp, stepF_plain, rdOf, opIds, Op.operands, List.flatMap_cons, List.flatMap_nil, List.append_nil]
theorem f_lookup (t : TypeId) (m k : Operand) (ok : Bool) : stepF C K fr ops b n al ps fps l i Q (doOp C K fr ρ (.lookup t m k ok) dst ⟨e, h, bs, ds⟩) = plainF C K fr ops b n al ps fps l i dst e h bs ds Q (idsOf (ev e.get m) ++ idsOf (ev e.get k)) (opLookup C.T h.get (ev e.get m) (ev e.get k) ok (C.T t)) := by
  simp only [doOp, evalOp, stepF_plain, rdOf, opIds, Op.operands, List.flatMap_cons, List.flatMap_nil, List.append_nil]
theorem f_makeSlice (t : TypeId) (x y : Operand) : stepF C K fr ops b n al ps fps l i Q (doOp C K fr ρ (.makeSlice t x y) dst ⟨e, h, bs, ds⟩) = plainF C K fr ops b n al ps fps l i dst e h bs ds Q ([]) (opMakeSlice C.T h.get ρ (ev e.get x) (ev e.get y) (C.T t)) := by
  simp only [doOp, evalOp, stepF_plain, rdOf, opIds, Op.operands, List.flatMap_cons, List.flatMap_nil, List.append_nil]
theorem f_slice (t : TypeId) (x : Operand) (lo hi mx : Option Operand) : stepF C K fr ops b n al ps fps l i Q (doOp C K fr ρ (.slice t x lo hi mx) dst ⟨e, h, bs, ds⟩) = plainF C K fr ops b n al ps fps l i dst e h bs ds Q (rdOf e.get h.get (.slice t x lo hi mx)) (opSlice C.T h.get (ev e.get x) (lo.map (ev e.get)) (hi.map (ev e.get)) (mx.map (ev e.get)) (C.T t)) := by
  simp only [doOp, evalOp, stepF_plain]
theorem f_fieldAddr (t : TypeId) (x : Operand) (k : Nat) : stepF C K fr ops b n al ps fps l i Q (doOp C K fr ρ (.fieldAddr t x k) dst ⟨e, h, bs, ds⟩) = plainF C K fr ops b n al ps fps l i dst e h bs ds Q ([]) (opFieldAddr k (ev e.get x) (C.T t)) := by
  simp only [doOp, evalOp, stepF_plain, rdOf, opIds, Op.operands, List.flatMap_cons, List.flatMap_nil, List.append_nil]
theorem f_field (t : TypeId) (x : Operand) (k : Nat) : stepF C K fr ops b n al ps fps l i Q (doOp C K fr ρ (.field t x k) dst ⟨e, h, bs, ds⟩) = plainF C K fr ops b n al ps fps l i dst e h bs ds Q ([]) (opField k (ev e.get x) (C.T t)) := by
  simp only [doOp, evalOp, stepF_plain, rdOf, opIds, Op.operands, List.flatMap_cons, List.flatMap_nil, List.append_nil]
theorem f_indexAddr (t : TypeId) (x y : Operand) : stepF C K fr ops b n al ps fps l i Q (doOp C K fr ρ (.indexAddr t x y) dst ⟨e, h, bs, ds⟩) = plainF C K fr ops b n al ps fps l i dst e h bs ds Q (idsOf (ev e.get x) ++ idsOf (ev e.get y)) (opIndexAddr C.T h.get (ev e.get x) (ev e.get y) (C.T t)) := by
  simp only [doOp, evalOp, stepF_plain, rdOf, opIds, Op.operands, List.flatMap_cons, List.flatMap_nil, List.append_nil]
theorem f_index (t : TypeId) (x y : Operand) : stepF C K fr ops b n al ps fps l i Q (doOp C K fr ρ (.index t x y) dst ⟨e, h, bs, ds⟩) = plainF C K fr ops b n al ps fps l i dst e h bs ds Q ([]) (opIndex (ev e.get x) (ev e.get y) (C.T t)) := by
  simp only [doOp, evalOp, stepF_plain, rdOf, opIds, Op.operands, List.flatMap_cons, List.flatMap_nil, List.append_nil]
theorem f_extract (x : Operand) (k : Nat) : stepF C K fr ops b n al ps fps l i Q (doOp C K fr ρ (.extract x k) dst ⟨e, h, bs, ds⟩) = plainF C K fr ops b n al ps fps l i dst e h bs ds Q ([]) (opExtract k (ev e.get x)) := by
  simp only [doOp, evalOp, stepF_plain, rdOf, opIds, Op.operands, List.flatMap_cons, List.flatMap_nil, List.append_nil]
theorem f_builtin (f : Builtin) (az : Array Operand) (ts : Array TypeId) : stepF C K fr ops b n al ps fps l i Q (doOp C K fr ρ (.call ⟨.builtin f, az, ts⟩) dst ⟨e, h, bs, ds⟩) = plainF C K fr ops b n al ps fps l i dst e h bs ds Q (rdOf e.get h.get (.call ⟨.builtin f, az, ts⟩)) (opBuiltin C.T h.get ρ f (az.toList.map (ev e.get)) ts.toList) := by
  simp only [doOp, opCall, stepF_plain]
theorem f_panic (x : Operand) : stepF C K fr ops b n al ps fps l i Q (doOp C K fr ρ (.panic x) dst ⟨e, h, bs, ds⟩) = stepF C K fr ops b n al ps fps l i Q (doPanic ⟨e, h, bs, ds⟩ (ev e.get x)) := rfl
def pureF (C : Cfg) (K : Oracle) (fr : Fr) (ops : Array Oper) (b n : Nat) (al : Nat → Bool) (ps : List (Nat × Nat)) (fps : List Fp) (l : List Oper) (i : Nat) (az : List AV) (dst : Option Tmp) (e : Env) (h : Heap) (bs : Nat) (ds : List Df) (Q : Out → St → Prop) (r : E (COut × Heap)) : Prop :=
  stepF C K fr ops b n al ps fps l i Q (retPure fr az dst ⟨e, h, bs, ds⟩ r)
def callF (C : Cfg) (K : Oracle) (fr : Fr) (ops : Array Oper) (b n : Nat) (al : Nat → Bool) (ps : List (Nat × Nat)) (fps : List Fp) (l : List Oper) (i : Nat) (dst : Option Tmp) (ρ : List Nat) (e : Env) (h : Heap) (bs : Nat) (ds : List Df) (Q : Out → St → Prop) (args : List AV) : AV → Prop
  | fv => stepF C K fr ops b n al ps fps l i Q (doCall C K fr ρ fv args dst ⟨e, h, bs, ds⟩)
theorem f_value (f : Operand) (az : Array Operand) (ts : Array TypeId) : stepF C K fr ops b n al ps fps l i Q (doOp C K fr ρ (.call ⟨.value f, az, ts⟩) dst ⟨e, h, bs, ds⟩) = callF C K fr ops b n al ps fps l i dst ρ e h bs ds Q (az.toList.map (ev e.get)) (ev e.get f) := rfl
def modeF (C : Cfg) (K : Oracle) (fr : Fr) (ops : Array Oper) (b n : Nat) (al : Nat → Bool) (ps : List (Nat × Nat)) (fps : List Fp) (l : List Oper) (i : Nat) (dst : Option Tmp) (ρ : List Nat) (e : Env) (h : Heap) (bs : Nat) (ds : List Df) (Q : Out → St → Prop) (f : FuncId) (az : List AV) (m : Mode) : Prop :=
  stepF C K fr ops b n al ps fps l i Q (callFn K fr ρ f az dst ⟨e, h, bs, ds⟩ m)
theorem callF_fn (f : FuncId) (first cap args : List AV) : callF C K fr ops b n al ps fps l i dst ρ e h bs ds Q args (.fn f first cap) = modeF C K fr ops b n al ps fps l i dst ρ e h bs ds Q f (first ++ args ++ cap) (C.mode f) := by
  simp only [callF, modeF, doCall, fAVs1_eq]
def frzF (C : Cfg) (K : Oracle) (fr : Fr) (ops : Array Oper) (b n : Nat) (al : Nat → Bool) (ps : List (Nat × Nat)) (fps : List Fp) (l : List Oper) (i : Nat) (dst : Option Tmp) (e : Env) (h : Heap) (bs : Nat) (ds : List Df) (Q : Out → St → Prop) (f : FuncId) (az : List AV) (own : List Nat) : Option (List AV) → Prop
  | some xs => pureF C K fr ops b n al ps fps l i az dst e h bs ds Q (K (.fn f) xs [] own false none)
  | none => False
theorem modeF_auto (f : FuncId) (az : List AV) (hx : (frzL h.get az).isSome) : modeF C K fr ops b n al ps fps l i dst ρ e h bs ds Q f az .auto = frzF C K fr ops b n al ps fps l i dst e h bs ds Q f az [] (frzL h.get az) := by
  obtain ⟨xs, hx⟩ := Option.isSome_iff_exists.1 hx
  simp only [modeF, callFn, hx, fAVs1_eq, frzF, pureF]
theorem modeF_own (f : FuncId) (az : List AV) (hx : (frzL h.get az).isSome) : modeF C K fr ops b n al ps fps l i dst ρ e h bs ds Q f az .own = frzF C K fr ops b n al ps fps l i dst e h bs ds Q f az ρ (frzL h.get az) := by
  obtain ⟨xs, hx⟩ := Option.isSome_iff_exists.1 hx
  simp only [modeF, callFn, hx, fAVs1_eq, frzF, pureF]
theorem frzF_some (f : FuncId) (az : List AV) (own : List Nat) (xs : List AV) : frzF C K fr ops b n al ps fps l i dst e h bs ds Q f az own (some xs) = pureF C K fr ops b n al ps fps l i az dst e h bs ds Q (askN K f xs own) := by
  simp only [frzF, pureF, retPure_nrm]
theorem pureF_flat (az : List AV) (v : AV) (h' : Heap) (hv : flat v = true) : pureF C K fr ops b n al ps fps l i az dst e h bs ds Q (.ok (.ret v, h')) = opsF C K fr ops b n al ps (fps ++ [⟨some (deepIds h.get (idsL az)), some []⟩]) l (i + 1) ⟨putE e dst v, h, bs, ds⟩ Q := by
  simp only [pureF, retPure, fEnv0_eq, hv, stepF]
theorem pureF_pan (az : List AV) (v : AV) (h' : Heap) (hv : flat v = true) : pureF C K fr ops b n al ps fps l i az dst e h bs ds Q (.ok (.pan v, h')) = (al i = true ∧ pairsOk fps ps = true ∧ Q (.pan v) ⟨e, h, b + n, ds⟩) := by
  simp only [pureF, retPure, hv, stepF]
theorem pureF_arr (az : List AV) (v : AV) (h' : Heap) (x : Id × Obj) (hv : flat v = false) (hx : flatArr v h' = some x) : pureF C K fr ops b n al ps fps l i az dst e h bs ds Q (.ok (.ret v, h')) = opsF C K fr ops b n al ps (fps ++ [⟨some (deepIds h.get (idsL az)), some [x.1]⟩]) l (i + 1) ⟨putE e dst v, x :: h, bs, ds⟩ Q := by
  simp only [pureF, retPure, fEnv0_eq, hv, retList, hx, fHeap0_eq, stepF]
theorem pureF_new (az : List AV) (v : AV) (h' : Heap) (hv : flat v = false) (hx : flatArr v h' = none) : pureF C K fr ops b n al ps fps l i az dst e h bs ds Q (.ok (.ret v, h')) = (wok fr.prot (az.flatMap (mark h.get)) = true ∧ opsF C K fr ops b n al ps (fps ++ [⟨some (deepIds h.get (idsL az)), some ((az.flatMap (mark h.get)).map (·.1) ++ h'.map (·.1))⟩]) l (i + 1) ⟨putE e dst v, h' ++ h.puts (az.flatMap (mark h.get)), bs, ds⟩ Q) := by
  simp only [pureF, retPure, fEnv0_eq, hv, retList, hx, fHeap0_eq, fHeap_eq]
  cases hw : wok fr.prot (az.flatMap (mark h.get)) <;> simp [stepF]
end
theorem plainF_at {α : Type} {f : α → List Dat} {l' : List α} {sz j : Nat} {dst : Option Tmp} {rd : List Id} (hj : j < l'.length) (hx : ∀ x, l'[j]? = some x → plainF C K fr ops b n al ps fps l i dst e h bs ds Q rd (lstO sz (some (f x)))) : plainF C K fr ops b n al ps fps l i dst e h bs ds Q rd (lstO sz (Option.map f l'[j]?)) := by
  have := hx l'[j] (List.getElem?_eq_getElem hj)
  rwa [List.getElem?_eq_getElem hj]
theorem pairsOk_nil (fps : List Fp) : pairsOk fps [] = true := rfl
def apartO : Option Fp → Option Fp → Bool
  | some a, some c => a.apart c
  | _, _ => true
theorem apartO_some (a c : Fp) : apartO (some a) (some c) = a.apart c := rfl
theorem apartO_none (a : Option Fp) : apartO a none = true := by cases a <;> rfl
theorem pairsOk_cons (fps : List Fp) (i j : Nat) (l : List (Nat × Nat)) : pairsOk fps ((i, j) :: l) = (apartO fps[i]? fps[j]? && pairsOk fps l) := by
  simp only [pairsOk, List.all_cons]
  rfl
theorem deepIds_nil (g : G) : deepIds g [] = [] := rfl
theorem apart_nil (x : Option (List Id)) : Abs.apart (some []) x = true := by cases x <;> simp [Abs.apart]
theorem apart_nil2 (x : Option (List Id)) : Abs.apart x (some []) = true := by
  unfold Abs.apart
  split <;> first | rfl | simp_all
theorem rd_buildSlice (g : G) (e : Nat → AV) (t : TypeId) (m : Nat) (p : Array (Nat × Operand)) : rdOf e g (.buildSlice t m p) = (p.toList.map (·.2)).flatMap fun y => idsOf (ev e y) := by
  simp only [rdOf, opIds, Op.operands]
theorem rd_slice (g : G) (e : Nat → AV) (t : TypeId) (x : Operand) (lo hi mx : Option Operand) : rdOf e g (.slice t x lo hi mx) = (x :: (lo.toList ++ hi.toList ++ mx.toList)).flatMap fun y => idsOf (ev e y) := by
  simp [rdOf, opIds, Op.operands]
theorem rd_len (g : G) (e : Nat → AV) (az : Array Operand) (ts : Array TypeId) : rdOf e g (.call ⟨.builtin .len, az, ts⟩) = az.toList.flatMap fun y => idsOf (ev e y) := by
  simp [rdOf, opIds, Op.operands, Call.operands]
theorem rd_append (g : G) (e : Nat → AV) (az : Array Operand) (ts : Array TypeId) : rdOf e g (.call ⟨.builtin .append, az, ts⟩) = deepIds g (az.toList.flatMap fun y => idsOf (ev e y)) := by
  simp [rdOf, opIds, Op.operands, Call.operands]
theorem rd_max (g : G) (e : Nat → AV) (az : Array Operand) (ts : Array TypeId) : rdOf e g (.call ⟨.builtin .max, az, ts⟩) = [] := rfl
theorem rd_min (g : G) (e : Nat → AV) (az : Array Operand) (ts : Array TypeId) : rdOf e g (.call ⟨.builtin .min, az, ts⟩) = [] := rfl
attribute [go_sem] pureF_pan pureF_new
attribute [go_sem] opsF_nil qF_guard guardX_tt guardX_ff guardX_tf guardX_ft guardX_nt guardX_nf guardX_tup opsF_free plainF_same plainF_new f_move f_assign f_pick f_alloc f_box f_build f_buildSlice f_load f_store f_nilCheck f_binOp f_unOp f_iface f_assert f_makeFunc f_makeMap f_insert f_mapUpdate f_lookup f_makeSlice f_slice f_fieldAddr f_field f_indexAddr f_index f_extract f_builtin f_panic f_value callF_fn modeF_auto modeF_own frzF_some pureF_flat pairsOk_nil apartO_some apartO_none pairsOk_cons deepIds_nil apart_nil apart_nil2 rd_buildSlice rd_slice rd_len rd_append rd_max rd_min Fp.apart List.flatMap_cons List.flatMap_nil
end Go.Abs
end
section
set_option linter.unusedSimpArgs false
set_option linter.unusedVariables false
namespace Go.Abs
variable {P : Program} {C : Cfg} {K : Oracle} {fr : Fr} {b n i : Nat} {Q : Out → St → Prop}
variable {ops : Array Oper} {al : Nat → Bool} {l : List Oper} {e : Env} {h : Heap} {bs : Nat} {ds : List Df}
theorem is_iff : ∀ {a b : Id}, Id.is a b = true ↔ a = b := fun {a b} => ⟨Id.is_eq, fun h => by subst h; exact is_self a⟩
theorem is_false {a b : Id} (h : a ≠ b) : Id.is a b = false := by
  cases hx : Id.is a b with
  | false => rfl
  | true => exact absurd (is_iff.1 hx) h
theorem under_iff {ρ : Id} : ∀ {id : Id}, Id.under ρ id = true ↔ ρ <:+ id
  | [] => by
    simp only [Id.under, is_iff, List.suffix_nil]
  | m :: l => by
    rw [List.suffix_cons_iff]
    unfold Id.under
    cases hx : Id.is ρ (m :: l) with
    | true => simp [is_iff.1 hx]
    | false =>
      have : ρ ≠ m :: l := fun h => by rw [is_iff.2 h] at hx; cases hx
      simp only [this, false_or]
      exact under_iff
theorem under_false {ρ id : Id} (h : ¬ ρ <:+ id) : Id.under ρ id = false := by
  cases hx : Id.under ρ id with
  | false => rfl
  | true => exact absurd (under_iff.1 hx) h
theorem get_put (h : Heap) (id : Id) (o : Obj) (id' : Id) : Heap.get (Heap.put h id o) id' = if Id.is id id' = true then some o else Heap.get h id' := by
  induction h with
  | nil => simp only [put_nil, heap_cons]
  | cons p h ih =>
    obtain ⟨k, x⟩ := p
    rw [put_cons]
    by_cases hk : Id.is k id = true
    · rw [if_pos hk, heap_cons, heap_cons]
      have := is_iff.1 hk
      subst this
      split <;> rfl
    · rw [if_neg hk, heap_cons, heap_cons, ih]
      by_cases h1 : Id.is k id' = true
      · rw [if_pos h1, if_pos h1]
        have := is_iff.1 h1
        subst this
        rw [if_neg fun h2 => hk (is_iff.2 (is_iff.1 h2).symm)]
      · rw [if_neg h1, if_neg h1]
theorem get_filter (q : Id → Bool) (h : Heap) (id : Id) (hq : q id = true) : Heap.get (List.filter (fun p => q p.1) h) id = Heap.get h id := by
  induction h with
  | nil => rfl
  | cons p h ih =>
    obtain ⟨k, x⟩ := p
    rw [heap_cons, List.filter_cons]
    by_cases hk : Id.is k id = true
    · have := is_iff.1 hk
      subst this
      simp only [hq, if_true, heap_cons, hk]
    · rw [if_neg hk, ← ih]
      split
      · rw [heap_cons, if_neg hk]
      · rfl
theorem get_gc (ρ : List Nat) (h : Heap) (id : Id) (hid : Id.under ρ id = false) : Heap.get (gc ρ h) id = Heap.get h id := by
  refine get_filter (fun id => match id with | 0 :: l => !Id.under ρ l | _ => true) h id ?_
  split
  · rename_i l
    have : ¬ ρ <:+ l := fun h1 => by
      have := under_iff.2 (h1.trans (List.suffix_cons 0 l))
      rw [hid] at this
      cases this
    rw [under_false this]
    rfl
  · rfl
def rawP (C : Cfg) (K : Oracle) (fr : Fr) (ops : Array Oper) (b n : Nat) (al : Nat → Bool) (l : List Oper) (i : Nat) (dst : Option Tmp) (ρ : List Nat) (e : Env) (h : Heap) (bs : Nat) (ds : List Df) (Q : Out → St → Prop) : E (COut × Heap) → Prop
  | .ok (.ret v, h') => opsP C K fr ops b n al l (i + 1) ⟨putE e dst v, gc ρ h', bs, ds⟩ Q
  | .ok (.pan v, h') => al i = true ∧ Q (.pan v) ⟨e, gc ρ h', b + n, ds⟩
  | .err _ => False
theorem stepP_raw (dst : Option Tmp) (ρ : List Nat) (r : E (COut × Heap)) : stepP C K fr ops b n al l i Q (retRaw ρ dst ⟨e, h, bs, ds⟩ r) = rawP C K fr ops b n al l i dst ρ e h bs ds Q r := by
  cases r with
  | err l => rfl
  | ok r =>
    obtain ⟨o, h'⟩ := r
    cases o <;> simp only [retRaw, fEnv0_eq, fHeap0_eq, stepP, rawP]
theorem rawP_ret (dst : Option Tmp) (ρ : List Nat) (v : AV) (h' : Heap) : rawP C K fr ops b n al l i dst ρ e h bs ds Q (.ok (.ret v, h')) = opsP C K fr ops b n al l (i + 1) ⟨putE e dst v, gc ρ h', bs, ds⟩ Q := rfl
theorem rawP_pan (dst : Option Tmp) (ρ : List Nat) (v : AV) (h' : Heap) : rawP C K fr ops b n al l i dst ρ e h bs ds Q (.ok (.pan v, h')) = (al i = true ∧ Q (.pan v) ⟨e, gc ρ h', b + n, ds⟩) := rfl
theorem modeP_raw (dst : Option Tmp) (ρ : List Nat) (f : FuncId) (az : List AV) : modeP C K fr ops b n al l i dst ρ e h bs ds Q f az .raw = rawP C K fr ops b n al l i dst ρ e h bs ds Q (K (.fn f) az h ρ true fr.prot) := by
  simp only [modeP, callFn, stepP_raw]
theorem rawP_post {Post : COut → Heap → Prop} {dst : Option Tmp} {ρ : List Nat} {q : E (COut × Heap)} (hk : ∃ o h', q = .ok (o, h') ∧ Post o h') (hn : ∀ o h', Post o h' → rawP C K fr ops b n al l i dst ρ e h bs ds Q (.ok (o, h'))) : rawP C K fr ops b n al l i dst ρ e h bs ds Q q := by
  obtain ⟨o, h', e, hp⟩ := hk
  rw [e]
  exact hn o h' hp
def thaw1 (v : AV) : Option AV → AV
  | some u => u
  | none => v
theorem thaw_nil (g : G) : thaw g [] = [] := rfl
theorem thaw_cons (g : G) (v : AV) (vs : List AV) : thaw g (v :: vs) = thaw1 v (frz1 g v) :: thaw g vs := by
  simp only [thaw, List.map_cons]
  cases frz1 g v <;> rfl
theorem thaw1_some (v u : AV) : thaw1 v (some u) = u := rfl
theorem thaw1_none (v : AV) : thaw1 v none = v := rfl
theorem modeP_refs (dst : Option Tmp) (ρ : List Nat) (f : FuncId) (az : List AV) (hx : (frzL h.get az).isNone) : modeP C K fr ops b n al l i dst ρ e h bs ds Q f az .auto = (wok fr.prot (az.flatMap (mark h.get)) = true ∧ rawP C K fr ops b n al l i dst ρ e h bs ds Q (K (.fn f) (thaw h.get az) (h.puts (az.flatMap (mark h.get))) ρ true fr.prot)) := by
  have hx : frzL h.get az = none := by simpa using hx
  simp only [modeP, callFn, hx, callRefs, fAVs1_eq, fHeap_eq, fHeap0_eq]
  cases hw : wok fr.prot (az.flatMap (mark h.get)) with
  | true => simp only [stepP_raw, true_and]
  | false => simp [stepP]
def roP (C : Cfg) (K : Oracle) (fr : Fr) (ops : Array Oper) (b n : Nat) (al : Nat → Bool) (l : List Oper) (i : Nat) (dst : Option Tmp) (e : Env) (h : Heap) (bs : Nat) (ds : List Df) (Q : Out → St → Prop) : E (COut × Heap) → Prop
  | .ok (.ret v, _) => flat v = true ∧ opsP C K fr ops b n al l (i + 1) ⟨putE e dst v, h, bs, ds⟩ Q
  | .ok (.pan v, _) => flat v = true ∧ al i = true ∧ Q (.pan v) ⟨e, h, b + n, ds⟩
  | .err _ => False
theorem modeP_ro (dst : Option Tmp) (ρ : List Nat) (f : FuncId) (az : List AV) (hx : (frzL h.get az).isNone) : modeP C K fr ops b n al l i dst ρ e h bs ds Q f az .ro = roP C K fr ops b n al l i dst e h bs ds Q (K (.fn f) (thaw h.get az) (h.puts (az.flatMap (mark h.get))) ρ true (some ρ)) := by
  have hx : frzL h.get az = none := by simpa using hx
  simp only [modeP, callFn, hx, callRefs, fAVs1_eq, fHeap_eq, fHeap0_eq]
  cases K (.fn f) (thaw h.get az) (h.puts (az.flatMap (mark h.get))) ρ true (some ρ) with
  | err l => rfl
  | ok r =>
    obtain ⟨o, h'⟩ := r
    cases o <;> simp only [retRo, roP, fEnv0_eq] <;> split <;> simp_all [stepP]
theorem mark_d (g : G) (x : Dat) : mark g (.d x) = [] := rfl
theorem mark_nils (g : G) : mark g .nils = [] := rfl
theorem mark_emp (g : G) : mark g .emp = [] := rfl
theorem mark_ptr (g : G) (id : Id) (off : Nat) : mark g (.ptr id off) = [] := rfl
theorem mark_fn (g : G) (f : FuncId) (a c : List AV) : mark g (.fn f a c) = [] := rfl
theorem mark_mp (g : G) (id : Id) : mark g (.mp id) = [] := rfl
theorem mark_osl (g : G) (id : Id) (off m : Nat) : mark g (.osl id off m) = mark1 g (.osl id off m) := by simp only [mark, parts, List.flatMap_cons, List.flatMap_nil, List.append_nil]
def markL (g : G) : List AV → Heap
  | [] => []
  | v :: vs => mark1 g v ++ markL g vs
theorem mark_agg (g : G) (cs : List AV) : mark g (.agg cs) = markL g cs := by
  simp only [mark, parts]
  induction cs with
  | nil => rfl
  | cons v vs ih => rw [List.flatMap_cons, ih]; rfl
theorem mark1_d (g : G) (x : Dat) : mark1 g (.d x) = [] := rfl
theorem mark1_nils (g : G) : mark1 g .nils = [] := rfl
theorem mark1_emp (g : G) : mark1 g .emp = [] := rfl
theorem mark1_ptr (g : G) (id : Id) (off : Nat) : mark1 g (.ptr id off) = [] := rfl
theorem under_nil (n : Nat) (ρ : Id) : Id.under (n :: ρ) [] = false := under_false (by simp)
theorem under_cons (ρ : Id) (n : Nat) (l : Id) : Id.under ρ (n :: l) = if Id.is ρ (n :: l) = true then true else Id.under ρ l := by
  conv => lhs; unfold Id.under
  cases Id.is ρ (n :: l) <;> rfl
theorem under_short (n : Nat) (ρ : Id) : Id.under (n :: ρ) ρ = false := under_false fun h => by
  have := h.length_le
  simp at this
  omega
theorem under_short2 (m n : Nat) (ρ : Id) : Id.under (m :: n :: ρ) ρ = false := under_false fun h => by
  have := h.length_le
  simp at this
  omega
theorem under_ext {ρ id : Id} (h : Id.under ρ id = false) (n : Nat) : Id.under (n :: ρ) id = false := under_false fun h1 => by
  rw [under_iff.2 ((List.suffix_cons n ρ).trans h1)] at h
  cases h
theorem not_is {ρ id : Id} (h : Id.under ρ id = false) (a n : Nat) : Id.is (a :: n :: ρ) id = false := is_false fun h1 => by
  subst h1
  rw [under_iff.2 ((List.suffix_cons n ρ).trans (List.suffix_cons a _))] at h
  cases h
theorem not_is' {ρ id : Id} (h : Id.under ρ id = false) (a n : Nat) : Id.is id (a :: n :: ρ) = false := is_false fun h1 => by
  subst h1
  rw [under_iff.2 ((List.suffix_cons n ρ).trans (List.suffix_cons a _))] at h
  cases h
def deferP (C : Cfg) (K : Oracle) (fr : Fr) (ops : Array Oper) (b n : Nat) (al : Nat → Bool) (l : List Oper) (i : Nat) (dst : Option Tmp) (e : Env) (h : Heap) (bs : Nat) (ds : List Df) (Q : Out → St → Prop) (az : List AV) : AV → Prop
  | .fn g [] [] => opsP C K fr ops b n al l (i + 1) ⟨putE e dst .undef, h, bs, .call g az :: ds⟩ Q
  | _ => False
theorem stepP_defer (dst : Option Tmp) (f : Operand) (az : Array Operand) (ts : Array TypeId) (hr : fr.rnd = false) : stepP C K fr ops b n al l i Q (doDefer fr e.get ⟨.value f, az, ts⟩ dst ⟨e, h, bs, ds⟩) = deferP C K fr ops b n al l i dst e h bs ds Q (az.toList.map (ev e.get)) (ev e.get f) := by
  simp only [doDefer, hr]
  cases ev e.get f with
  | fn g a c =>
    cases a with
    | nil => cases c <;> simp only [deferP, stepP]
    | cons x l => simp only [deferP, stepP]
  | _ => rfl
theorem deferP_fn (dst : Option Tmp) (az : List AV) (g : FuncId) : deferP C K fr ops b n al l i dst e h bs ds Q az (.fn g [] []) = opsP C K fr ops b n al l (i + 1) ⟨putE e dst .undef, h, bs, .call g az :: ds⟩ Q := rfl
def leaveS (C : Cfg) (prot : Option (List Nat)) (l : List Df) (h : Heap) (id : Id) : Option (List AV) → E (Option AV × Heap)
  | some cs => leave C prot l none (h.put id (.box cs))
  | none => .err [20]
def leaveB (C : Cfg) (prot : Option (List Nat)) (l : List Df) (h : Heap) (id : Id) (off : Nat) (k : IntKind) (m : Int) : Option Obj → E (Option AV × Heap)
  | some (.box cs) => leaveS C prot l h id (splice cs off [.d (.int k m)])
  | _ => .err [21]
theorem leave_caught {prot : Option (List Nat)} {l : List Df} {h : Heap} {f : FuncId} {t : TypeId} {id : Id} {off : Nat} {k : IntKind} {m : Int} (hc : C.caught f = some t) (hw : wok prot [(id, .box [])] = true) : leave C prot (.call f [.ptr id off] :: l) (some (.iface t (.agg [.d (.int k m)]))) h = leaveB C prot l h id off k m (h.get id) := by
  simp only [leave, hc, hw, Nat.beq_refl, Bool.and_true, leaveB, leaveS]
  cases h.get id with
  | none => rfl
  | some o => cases o with
    | box cs => simp only; cases splice cs off [.d (.int k m)] <;> rfl
    | _ => rfl
theorem leave_well {prot : Option (List Nat)} {l : List Df} {h : Heap} {f : FuncId} {id : Id} {off : Nat} (hc : (C.caught f).isSome = true) : leave C prot (.call f [.ptr id off] :: l) none h = leave C prot l none h := by
  obtain ⟨t, ht⟩ := Option.isSome_iff_exists.1 hc
  simp only [leave, ht]
attribute [go_sem] stepP_defer deferP_fn leaveB leaveS leave_caught leave_well
theorem iface_struct (t : TypeId) (x : AV) (i : TI) (hi : (match i.kind with | .iface => false | _ => true) = true) : opIface t x (some i) = some ⟨.iface t x, []⟩ := by
  unfold opIface
  simp only
  split
  · rename_i h; rw [h] at hi; cases hi
  · rfl
attribute [go_sem] opIface opAssert opMakeFunc opMakeMap opLookup lookIn opMakeSlice makeArr opSlice opAppend newArr appendV elemsV appTo appIn appMix
attribute [go_sem] get_gc under_nil under_cons under_short under_short2
attribute [go_sem] get_put rawP_ret rawP_pan modeP_raw thaw_nil thaw_cons thaw1_some thaw1_none modeP_refs Option.isNone_some Option.isNone_none modeP_ro mark_d mark_nils mark_emp mark_ptr mark_fn mark_mp mark_agg markL mark1_d mark1_nils mark1_emp mark1_ptr
end Go.Abs
end
section
namespace Go.Proofs
open Go Go.Abs
theorem T0 : cfg.T 0 = (.some ⟨.other, 1, false, false, [.undef], [], 0, 0, false⟩) := by kernel_rfl
theorem T1 : cfg.T 1 = (.some ⟨.func, 1, false, false, [(.d .nilf)], [], 0, 0, false⟩) := by kernel_rfl
theorem T2 : cfg.T 2 = (.some ⟨.int, 1, false, false, [(.d (.int .i64 0))], [], 0, 0, false⟩) := by kernel_rfl
theorem T3 : cfg.T 3 = (.some ⟨.int, 1, false, false, [(.d (.int .i64 0))], [], 0, 0, false⟩) := by kernel_rfl
theorem T4 : cfg.T 4 = (.some ⟨.bool, 1, false, false, [(.d (.bool false))], [], 0, 0, false⟩) := by kernel_rfl
theorem T5 : cfg.T 5 = (.some ⟨.int, 1, false, false, [(.d (.int .u8 0))], [], 0, 0, false⟩) := by kernel_rfl
theorem T6 : cfg.T 6 = (.some ⟨.int, 1, false, false, [(.d (.int .u8 0))], [], 0, 0, false⟩) := by kernel_rfl
theorem T7 : cfg.T 7 = (.some ⟨(.flat [.int, .int, .bool, .int]), 4, true, true, [(.d (.int .i64 0)), (.d (.int .i64 0)), (.d (.bool false)), (.d (.int .u8 0))], [(0, 1, false), (1, 1, false), (2, 1, false), (3, 1, false)], 0, 0, false⟩) := by kernel_rfl
theorem T8 : cfg.T 8 = (.some ⟨(.flat [.int, .int, .bool, .int]), 4, true, true, [(.d (.int .i64 0)), (.d (.int .i64 0)), (.d (.bool false)), (.d (.int .u8 0))], [(0, 1, false), (1, 1, false), (2, 1, false), (3, 1, false)], 0, 0, false⟩) := by kernel_rfl
theorem T9 : cfg.T 9 = (.some ⟨.str, 1, false, false, [(.d (.str ⟨#[]⟩))], [], 0, 0, false⟩) := by kernel_rfl
theorem T10 : cfg.T 10 = (.some ⟨.str, 1, false, false, [(.d (.str ⟨#[]⟩))], [], 0, 0, false⟩) := by kernel_rfl
theorem T11 : cfg.T 11 = (.some ⟨.str, 1, false, false, [(.d (.str ⟨#[]⟩))], [], 0, 0, false⟩) := by kernel_rfl
theorem T12 : cfg.T 12 = (.some ⟨.int, 1, false, false, [(.d (.int .u64 0))], [], 0, 0, false⟩) := by kernel_rfl
theorem T13 : cfg.T 13 = (.some ⟨.other, 2, true, true, [(.d (.str ⟨#[]⟩)), (.d (.int .u64 0))], [(0, 1, false), (1, 1, false)], 0, 0, false⟩) := by kernel_rfl
theorem T14 : cfg.T 14 = (.some ⟨.other, 2, true, true, [(.d (.str ⟨#[]⟩)), (.d (.int .u64 0))], [(0, 1, false), (1, 1, false)], 0, 0, false⟩) := by kernel_rfl
theorem T15 : cfg.T 15 = (.some ⟨.ptr, 1, false, false, [(.d .nilp)], [], 0, 0, false⟩) := by kernel_rfl
theorem T16 : cfg.T 16 = (.some ⟨.ptr, 1, false, false, [(.d .nilp)], [], 0, 0, false⟩) := by kernel_rfl
theorem T17 : cfg.T 17 = (.some ⟨.ptr, 1, false, false, [(.d .nilp)], [], 0, 0, false⟩) := by kernel_rfl
theorem T18 : cfg.T 18 = (.some ⟨.other, 1, true, true, [(.d .nilp)], [(0, 1, false)], 0, 0, false⟩) := by kernel_rfl
theorem T19 : cfg.T 19 = (.some ⟨.other, 1, true, true, [(.d .nilp)], [(0, 1, false)], 0, 0, false⟩) := by kernel_rfl
theorem T20 : cfg.T 20 = (.some ⟨.iface, 1, false, false, [(.d .nili)], [], 0, 0, false⟩) := by kernel_rfl
theorem T21 : cfg.T 21 = (.some ⟨.int, 1, false, false, [(.d (.int .i32 0))], [], 0, 0, false⟩) := by kernel_rfl
theorem T22 : cfg.T 22 = (.some ⟨.slice, 1, false, false, [.nils], [], 9, 0, false⟩) := by kernel_rfl
theorem T23 : cfg.T 23 = (.some ⟨.slice, 1, false, false, [.nils], [], 140, 0, false⟩) := by kernel_rfl
theorem T24 : cfg.T 24 = (.some ⟨.slice, 1, false, false, [.nils], [], 147, 0, false⟩) := by kernel_rfl
theorem T25 : cfg.T 25 = (.some ⟨.other, 4, true, true, [.nils, .nils, .nils, (.d (.int .i64 0))], [(0, 1, false), (1, 1, false), (2, 1, false), (3, 1, false)], 0, 0, false⟩) := by kernel_rfl
theorem T26 : cfg.T 26 = (.some ⟨.other, 4, true, true, [.nils, .nils, .nils, (.d (.int .i64 0))], [(0, 1, false), (1, 1, false), (2, 1, false), (3, 1, false)], 0, 0, false⟩) := by kernel_rfl
theorem T27 : cfg.T 27 = (.some ⟨.slice, 1, false, false, [.nils], [], 66, 0, false⟩) := by kernel_rfl
theorem T28 : cfg.T 28 = (.some ⟨.slice, 1, false, false, [.nils], [], 114, 0, false⟩) := by kernel_rfl
theorem T29 : cfg.T 29 = (.some ⟨.slice, 1, false, false, [.nils], [], 69, 0, false⟩) := by kernel_rfl
theorem T30 : cfg.T 30 = (.some ⟨.slice, 1, false, false, [.nils], [], 127, 0, false⟩) := by kernel_rfl
theorem T31 : cfg.T 31 = (.some ⟨.other, 4, true, true, [.nils, .nils, .nils, .nils], [(0, 1, false), (1, 1, false), (2, 1, false), (3, 1, false)], 0, 0, false⟩) := by kernel_rfl
theorem T32 : cfg.T 32 = (.some ⟨.other, 4, true, true, [.nils, .nils, .nils, .nils], [(0, 1, false), (1, 1, false), (2, 1, false), (3, 1, false)], 0, 0, false⟩) := by kernel_rfl
theorem T33 : cfg.T 33 = (.some ⟨.int, 1, false, false, [(.d (.int .i64 0))], [], 0, 0, false⟩) := by kernel_rfl
theorem T34 : cfg.T 34 = (.some ⟨.other, 1, false, false, [.undef], [], 0, 0, false⟩) := by kernel_rfl
theorem T35 : cfg.T 35 = (.some ⟨.func, 1, false, false, [(.d .nilf)], [], 0, 0, false⟩) := by kernel_rfl
theorem T36 : cfg.T 36 = (.some ⟨.slice, 1, false, false, [.nils], [], 3, 0, false⟩) := by kernel_rfl
theorem T37 : cfg.T 37 = (.some ⟨.other, 4, true, true, [(.d (.int .i64 0)), (.d (.int .i64 0)), (.d (.int .i64 0)), .nils], [(0, 1, false), (1, 1, false), (2, 1, false), (3, 1, false)], 0, 0, false⟩) := by kernel_rfl
theorem T38 : cfg.T 38 = (.some ⟨.other, 4, true, true, [(.d (.int .i64 0)), (.d (.int .i64 0)), (.d (.int .i64 0)), .nils], [(0, 1, false), (1, 1, false), (2, 1, false), (3, 1, false)], 0, 0, false⟩) := by kernel_rfl
theorem T39 : cfg.T 39 = (.some ⟨.other, 1, false, false, [.undef], [], 0, 0, false⟩) := by kernel_rfl
theorem T40 : cfg.T 40 = (.some ⟨.func, 1, false, false, [(.d .nilf)], [], 0, 0, false⟩) := by kernel_rfl
theorem T41 : cfg.T 41 = (.some ⟨.func, 1, false, false, [(.d .nilf)], [], 0, 0, false⟩) := by kernel_rfl
theorem T42 : cfg.T 42 = (.some ⟨.func, 1, false, false, [(.d .nilf)], [], 0, 0, false⟩) := by kernel_rfl
theorem T43 : cfg.T 43 = (.some ⟨.func, 1, false, false, [(.d .nilf)], [], 0, 0, false⟩) := by kernel_rfl
theorem T44 : cfg.T 44 = (.some ⟨.slice, 1, false, false, [.nils], [], 78, 0, false⟩) := by kernel_rfl
theorem T45 : cfg.T 45 = (.some ⟨.other, 1, false, false, [.undef], [], 0, 0, false⟩) := by kernel_rfl
theorem T46 : cfg.T 46 = (.some ⟨.func, 1, false, false, [(.d .nilf)], [], 0, 0, false⟩) := by kernel_rfl
theorem T47 : cfg.T 47 = (.some ⟨.func, 1, false, false, [(.d .nilf)], [], 0, 0, false⟩) := by kernel_rfl
theorem T48 : cfg.T 48 = (.some ⟨.func, 1, false, false, [(.d .nilf)], [], 0, 0, false⟩) := by kernel_rfl
theorem T49 : cfg.T 49 = (.some ⟨.func, 1, false, false, [(.d .nilf)], [], 0, 0, false⟩) := by kernel_rfl
theorem T50 : cfg.T 50 = (.some ⟨.other, 2, true, true, [.nils, (.d (.int .i64 0))], [(0, 1, false), (1, 1, false)], 0, 0, false⟩) := by kernel_rfl
theorem T51 : cfg.T 51 = (.some ⟨.other, 2, true, true, [.nils, (.d (.int .i64 0))], [(0, 1, false), (1, 1, false)], 0, 0, false⟩) := by kernel_rfl
theorem T52 : cfg.T 52 = (.some ⟨.func, 1, false, false, [(.d .nilf)], [], 0, 0, false⟩) := by kernel_rfl
theorem T53 : cfg.T 53 = (.some ⟨.other, 1, false, false, [.undef], [], 0, 0, false⟩) := by kernel_rfl
theorem T54 : cfg.T 54 = (.some ⟨.func, 1, false, false, [(.d .nilf)], [], 0, 0, false⟩) := by kernel_rfl
theorem T55 : cfg.T 55 = (.some ⟨.func, 1, false, false, [(.d .nilf)], [], 0, 0, false⟩) := by kernel_rfl
theorem T56 : cfg.T 56 = (.some ⟨.func, 1, false, false, [(.d .nilf)], [], 0, 0, false⟩) := by kernel_rfl
theorem T57 : cfg.T 57 = (.some ⟨.other, 2, true, false, [.nils, .nils], [], 0, 0, false⟩) := by kernel_rfl
theorem T58 : cfg.T 58 = (.some ⟨.func, 1, false, false, [(.d .nilf)], [], 0, 0, false⟩) := by kernel_rfl
theorem T59 : cfg.T 59 = (.some ⟨.func, 1, false, false, [(.d .nilf)], [], 0, 0, false⟩) := by kernel_rfl
theorem T60 : cfg.T 60 = (.some ⟨.func, 1, false, false, [(.d .nilf)], [], 0, 0, false⟩) := by kernel_rfl
theorem T61 : cfg.T 61 = (.some ⟨.func, 1, false, false, [(.d .nilf)], [], 0, 0, false⟩) := by kernel_rfl
theorem T62 : cfg.T 62 = (.some ⟨.func, 1, false, false, [(.d .nilf)], [], 0, 0, false⟩) := by kernel_rfl
theorem T63 : cfg.T 63 = (.some ⟨.slice, 1, false, false, [.nils], [], 38, 0, false⟩) := by kernel_rfl
theorem T64 : cfg.T 64 = (.some ⟨.func, 1, false, false, [(.d .nilf)], [], 0, 0, false⟩) := by kernel_rfl
theorem T65 : cfg.T 65 = (.some ⟨(.flat [.int, .bool]), 2, true, true, [(.d (.int .i64 0)), (.d (.bool false))], [(0, 1, false), (1, 1, false)], 0, 0, false⟩) := by kernel_rfl
theorem T66 : cfg.T 66 = (.some ⟨(.flat [.int, .bool]), 2, true, true, [(.d (.int .i64 0)), (.d (.bool false))], [(0, 1, false), (1, 1, false)], 0, 0, false⟩) := by kernel_rfl
theorem T67 : cfg.T 67 = (.some ⟨.slice, 1, false, false, [.nils], [], 73, 0, false⟩) := by kernel_rfl
theorem T68 : cfg.T 68 = (.some ⟨.other, 4, true, true, [(.d (.int .i64 0)), (.d (.int .i64 0)), (.d (.int .i64 0)), .nils], [(0, 1, false), (1, 1, false), (2, 1, false), (3, 1, false)], 0, 0, false⟩) := by kernel_rfl
theorem T69 : cfg.T 69 = (.some ⟨.other, 4, true, true, [(.d (.int .i64 0)), (.d (.int .i64 0)), (.d (.int .i64 0)), .nils], [(0, 1, false), (1, 1, false), (2, 1, false), (3, 1, false)], 0, 0, true⟩) := by kernel_rfl
theorem T70 : cfg.T 70 = (.some ⟨.func, 1, false, false, [(.d .nilf)], [], 0, 0, false⟩) := by kernel_rfl
theorem T71 : cfg.T 71 = (.some ⟨.slice, 1, false, false, [.nils], [], 88, 0, false⟩) := by kernel_rfl
theorem T72 : cfg.T 72 = (.some ⟨.other, 1, true, true, [.nils], [(0, 1, false)], 0, 0, false⟩) := by kernel_rfl
theorem T73 : cfg.T 73 = (.some ⟨.other, 1, true, true, [.nils], [(0, 1, false)], 0, 0, false⟩) := by kernel_rfl
theorem T74 : cfg.T 74 = (.some ⟨.func, 1, false, false, [(.d .nilf)], [], 0, 0, false⟩) := by kernel_rfl
theorem T75 : cfg.T 75 = (.some ⟨.func, 1, false, false, [(.d .nilf)], [], 0, 0, false⟩) := by kernel_rfl
theorem T76 : cfg.T 76 = (.some ⟨.int, 1, false, false, [(.d (.int .i64 0))], [], 0, 0, false⟩) := by kernel_rfl
theorem T77 : cfg.T 77 = (.some ⟨.other, 5, true, true, [(.d (.int .i64 0)), (.d (.int .i64 0)), (.d (.int .i64 0)), (.d (.int .i64 0)), .nils], [(0, 1, false), (1, 1, false), (2, 1, false), (3, 1, false), (4, 1, false)], 0, 0, false⟩) := by kernel_rfl
theorem T78 : cfg.T 78 = (.some ⟨.other, 5, true, true, [(.d (.int .i64 0)), (.d (.int .i64 0)), (.d (.int .i64 0)), (.d (.int .i64 0)), .nils], [(0, 1, false), (1, 1, false), (2, 1, false), (3, 1, false), (4, 1, false)], 0, 0, false⟩) := by kernel_rfl
theorem T79 : cfg.T 79 = (.some ⟨.func, 1, false, false, [(.d .nilf)], [], 0, 0, false⟩) := by kernel_rfl
theorem T80 : cfg.T 80 = (.some ⟨.func, 1, false, false, [(.d .nilf)], [], 0, 0, false⟩) := by kernel_rfl
theorem T81 : cfg.T 81 = (.some ⟨.func, 1, false, false, [(.d .nilf)], [], 0, 0, false⟩) := by kernel_rfl
theorem T82 : cfg.T 82 = (.some ⟨.int, 1, false, false, [(.d (.int .i64 0))], [], 0, 0, false⟩) := by kernel_rfl
theorem T83 : cfg.T 83 = (.some ⟨.slice, 1, false, false, [.nils], [], 85, 0, false⟩) := by kernel_rfl
theorem T84 : cfg.T 84 = (.some ⟨.other, 3, true, true, [(.d (.int .i64 0)), (.d (.int .i64 0)), .nils], [(0, 1, false), (1, 1, false), (2, 1, false)], 0, 0, false⟩) := by kernel_rfl
theorem T85 : cfg.T 85 = (.some ⟨.other, 3, true, true, [(.d (.int .i64 0)), (.d (.int .i64 0)), .nils], [(0, 1, false), (1, 1, false), (2, 1, false)], 0, 0, false⟩) := by kernel_rfl
theorem T86 : cfg.T 86 = (.some ⟨.int, 1, false, false, [(.d (.int .i64 0))], [], 0, 0, false⟩) := by kernel_rfl
theorem T87 : cfg.T 87 = (.some ⟨(.flat [.int, .int]), 2, true, true, [(.d (.int .i64 0)), (.d (.int .i64 0))], [(0, 1, false), (1, 1, false)], 0, 0, false⟩) := by kernel_rfl
theorem T88 : cfg.T 88 = (.some ⟨(.flat [.int, .int]), 2, true, true, [(.d (.int .i64 0)), (.d (.int .i64 0))], [(0, 1, false), (1, 1, false)], 0, 0, false⟩) := by kernel_rfl
theorem T89 : cfg.T 89 = (.some ⟨.other, 1, false, false, [.undef], [], 0, 0, false⟩) := by kernel_rfl
theorem T90 : cfg.T 90 = (.some ⟨.func, 1, false, false, [(.d .nilf)], [], 0, 0, false⟩) := by kernel_rfl
theorem T91 : cfg.T 91 = (.some ⟨.func, 1, false, false, [(.d .nilf)], [], 0, 0, false⟩) := by kernel_rfl
theorem T92 : cfg.T 92 = (.some ⟨.slice, 1, false, false, [.nils], [], 112, 0, false⟩) := by kernel_rfl
theorem T93 : cfg.T 93 = (.some ⟨.slice, 1, false, false, [.nils], [], 105, 0, false⟩) := by kernel_rfl
theorem T94 : cfg.T 94 = (.some ⟨.func, 1, false, false, [(.d .nilf)], [], 0, 0, false⟩) := by kernel_rfl
theorem T95 : cfg.T 95 = (.some ⟨.func, 1, false, false, [(.d .nilf)], [], 0, 0, false⟩) := by kernel_rfl
theorem T96 : cfg.T 96 = (.some ⟨.slice, 1, false, false, [.nils], [], 92, 0, false⟩) := by kernel_rfl
theorem T97 : cfg.T 97 = (.some ⟨.other, 1, false, false, [.undef], [], 0, 0, false⟩) := by kernel_rfl
theorem T98 : cfg.T 98 = (.some ⟨.func, 1, false, false, [(.d .nilf)], [], 0, 0, false⟩) := by kernel_rfl
theorem T99 : cfg.T 99 = (.some ⟨.ptr, 1, false, false, [(.d .nilp)], [], 0, 0, false⟩) := by kernel_rfl
theorem T100 : cfg.T 100 = (.some ⟨.slice, 1, false, false, [.nils], [], 36, 0, false⟩) := by kernel_rfl
theorem T101 : cfg.T 101 = (.some ⟨.other, 6, true, true, [.nils, .nils, .nils, .nils, .nils, .nils], [(0, 4, true), (4, 1, false), (5, 1, false)], 0, 0, false⟩) := by kernel_rfl
theorem T102 : cfg.T 102 = (.some ⟨.other, 6, true, true, [.nils, .nils, .nils, .nils, .nils, .nils], [(0, 4, true), (4, 1, false), (5, 1, false)], 0, 0, false⟩) := by kernel_rfl
theorem T103 : cfg.T 103 = (.some ⟨.func, 1, false, false, [(.d .nilf)], [], 0, 0, false⟩) := by kernel_rfl
theorem T104 : cfg.T 104 = (.some ⟨.func, 1, false, false, [(.d .nilf)], [], 0, 0, false⟩) := by kernel_rfl
theorem T105 : cfg.T 105 = (.some ⟨.int, 1, false, false, [(.d (.int .u16 0))], [], 0, 0, false⟩) := by kernel_rfl
theorem T106 : cfg.T 106 = (.some ⟨.func, 1, false, false, [(.d .nilf)], [], 0, 0, false⟩) := by kernel_rfl
theorem T107 : cfg.T 107 = (.some ⟨.func, 1, false, false, [(.d .nilf)], [], 0, 0, false⟩) := by kernel_rfl
theorem T108 : cfg.T 108 = (.some ⟨.int, 1, false, false, [(.d (.int .i64 0))], [], 0, 0, false⟩) := by kernel_rfl
theorem T109 : cfg.T 109 = (.some ⟨.slice, 1, false, false, [.nils], [], 108, 0, false⟩) := by kernel_rfl
theorem T110 : cfg.T 110 = (.some ⟨.slice, 1, false, false, [.nils], [], 109, 0, false⟩) := by kernel_rfl
theorem T111 : cfg.T 111 = (.some ⟨.other, 3, true, true, [.nils, .nils, .nils], [(0, 1, false), (1, 1, false), (2, 1, false)], 0, 0, false⟩) := by kernel_rfl
theorem T112 : cfg.T 112 = (.some ⟨.other, 3, true, true, [.nils, .nils, .nils], [(0, 1, false), (1, 1, false), (2, 1, false)], 0, 0, false⟩) := by kernel_rfl
theorem T113 : cfg.T 113 = (.some ⟨.other, 3, true, true, [(.d (.int .i64 0)), (.d (.int .i64 0)), .nils], [(0, 1, false), (1, 1, false), (2, 1, false)], 0, 0, false⟩) := by kernel_rfl
theorem T114 : cfg.T 114 = (.some ⟨.other, 3, true, true, [(.d (.int .i64 0)), (.d (.int .i64 0)), .nils], [(0, 1, false), (1, 1, false), (2, 1, false)], 0, 0, false⟩) := by kernel_rfl
theorem T115 : cfg.T 115 = (.some ⟨.func, 1, false, false, [(.d .nilf)], [], 0, 0, false⟩) := by kernel_rfl
theorem T116 : cfg.T 116 = (.some ⟨.ptr, 1, false, false, [(.d .nilp)], [], 0, 0, false⟩) := by kernel_rfl
theorem T117 : cfg.T 117 = (.some ⟨.func, 1, false, false, [(.d .nilf)], [], 0, 0, false⟩) := by kernel_rfl
theorem T118 : cfg.T 118 = (.some ⟨.ptr, 1, false, false, [(.d .nilp)], [], 0, 0, false⟩) := by kernel_rfl
theorem T119 : cfg.T 119 = (.some ⟨.func, 1, false, false, [(.d .nilf)], [], 0, 0, false⟩) := by kernel_rfl
theorem T120 : cfg.T 120 = (.some ⟨.func, 1, false, false, [(.d .nilf)], [], 0, 0, false⟩) := by kernel_rfl
theorem T121 : cfg.T 121 = (.some ⟨.func, 1, false, false, [(.d .nilf)], [], 0, 0, false⟩) := by kernel_rfl
theorem T122 : cfg.T 122 = (.some ⟨.map, 1, false, false, [(.d .nilm)], [], 198, 138, false⟩) := by kernel_rfl
theorem T123 : cfg.T 123 = (.some ⟨.other, 13, true, true, [.nils, .nils, .nils, .nils, .nils, .nils, .nils, (.d (.int .i64 0)), .nils, .nils, (.d .nilm), .nils, (.d (.int .i64 0))], [(0, 4, true), (4, 4, true), (8, 1, false), (9, 1, false), (10, 1, false), (11, 1, false), (12, 1, false)], 0, 0, false⟩) := by kernel_rfl
theorem T124 : cfg.T 124 = (.some ⟨.other, 13, true, true, [.nils, .nils, .nils, .nils, .nils, .nils, .nils, (.d (.int .i64 0)), .nils, .nils, (.d .nilm), .nils, (.d (.int .i64 0))], [(0, 4, true), (4, 4, true), (8, 1, false), (9, 1, false), (10, 1, false), (11, 1, false), (12, 1, false)], 0, 0, false⟩) := by kernel_rfl
theorem T125 : cfg.T 125 = (.some ⟨.func, 1, false, false, [(.d .nilf)], [], 0, 0, false⟩) := by kernel_rfl
theorem T126 : cfg.T 126 = (.some ⟨.other, 3, true, true, [(.d (.int .i64 0)), (.d (.int .i64 0)), .nils], [(0, 1, false), (1, 1, false), (2, 1, false)], 0, 0, false⟩) := by kernel_rfl
theorem T127 : cfg.T 127 = (.some ⟨.other, 3, true, true, [(.d (.int .i64 0)), (.d (.int .i64 0)), .nils], [(0, 1, false), (1, 1, false), (2, 1, false)], 0, 0, false⟩) := by kernel_rfl
theorem T128 : cfg.T 128 = (.some ⟨.func, 1, false, false, [(.d .nilf)], [], 0, 0, false⟩) := by kernel_rfl
theorem T129 : cfg.T 129 = (.some ⟨.func, 1, false, false, [(.d .nilf)], [], 0, 0, false⟩) := by kernel_rfl
theorem T130 : cfg.T 130 = (.some ⟨.func, 1, false, false, [(.d .nilf)], [], 0, 0, false⟩) := by kernel_rfl
theorem T131 : cfg.T 131 = (.some ⟨.func, 1, false, false, [(.d .nilf)], [], 0, 0, false⟩) := by kernel_rfl
theorem T132 : cfg.T 132 = (.some ⟨.func, 1, false, false, [(.d .nilf)], [], 0, 0, false⟩) := by kernel_rfl
theorem T133 : cfg.T 133 = (.some ⟨.func, 1, false, false, [(.d .nilf)], [], 0, 0, false⟩) := by kernel_rfl
theorem T134 : cfg.T 134 = (.some ⟨.func, 1, false, false, [(.d .nilf)], [], 0, 0, false⟩) := by kernel_rfl
theorem T135 : cfg.T 135 = (.some ⟨.func, 1, false, false, [(.d .nilf)], [], 0, 0, false⟩) := by kernel_rfl
theorem T136 : cfg.T 136 = (.some ⟨.func, 1, false, false, [(.d .nilf)], [], 0, 0, false⟩) := by kernel_rfl
theorem T137 : cfg.T 137 = (.some ⟨.func, 1, false, false, [(.d .nilf)], [], 0, 0, false⟩) := by kernel_rfl
theorem T138 : cfg.T 138 = (.some ⟨.int, 1, false, false, [(.d (.int .i64 0))], [], 0, 0, false⟩) := by kernel_rfl
theorem T139 : cfg.T 139 = (.some ⟨.other, 4, true, true, [(.d (.int .i64 0)), (.d (.int .i64 0)), .nils, .nils], [(0, 1, false), (1, 1, false), (2, 1, false), (3, 1, false)], 0, 0, false⟩) := by kernel_rfl
theorem T140 : cfg.T 140 = (.some ⟨.other, 4, true, true, [(.d (.int .i64 0)), (.d (.int .i64 0)), .nils, .nils], [(0, 1, false), (1, 1, false), (2, 1, false), (3, 1, false)], 0, 0, false⟩) := by kernel_rfl
theorem T141 : cfg.T 141 = (.some ⟨.func, 1, false, false, [(.d .nilf)], [], 0, 0, false⟩) := by kernel_rfl
theorem T142 : cfg.T 142 = (.some ⟨.func, 1, false, false, [(.d .nilf)], [], 0, 0, false⟩) := by kernel_rfl
theorem T143 : cfg.T 143 = (.some ⟨.slice, 1, false, false, [.nils], [], 187, 0, false⟩) := by kernel_rfl
theorem T144 : cfg.T 144 = (.some ⟨.slice, 1, false, false, [.nils], [], 189, 0, false⟩) := by kernel_rfl
theorem T145 : cfg.T 145 = (.some ⟨.slice, 1, false, false, [.nils], [], 151, 0, false⟩) := by kernel_rfl
theorem T146 : cfg.T 146 = (.some ⟨.other, 3, true, true, [.nils, .nils, .nils], [(0, 1, false), (1, 1, false), (2, 1, false)], 0, 0, false⟩) := by kernel_rfl
theorem T147 : cfg.T 147 = (.some ⟨.other, 3, true, true, [.nils, .nils, .nils], [(0, 1, false), (1, 1, false), (2, 1, false)], 0, 0, false⟩) := by kernel_rfl
theorem T148 : cfg.T 148 = (.some ⟨.func, 1, false, false, [(.d .nilf)], [], 0, 0, false⟩) := by kernel_rfl
theorem T149 : cfg.T 149 = (.some ⟨.func, 1, false, false, [(.d .nilf)], [], 0, 0, false⟩) := by kernel_rfl
theorem T150 : cfg.T 150 = (.some ⟨.other, 3, true, true, [(.d (.int .i64 0)), .nils, (.d (.int .i64 0))], [(0, 1, false), (1, 1, false), (2, 1, false)], 0, 0, false⟩) := by kernel_rfl
theorem T151 : cfg.T 151 = (.some ⟨.other, 3, true, true, [(.d (.int .i64 0)), .nils, (.d (.int .i64 0))], [(0, 1, false), (1, 1, false), (2, 1, false)], 0, 0, false⟩) := by kernel_rfl
theorem T152 : cfg.T 152 = (.some ⟨.func, 1, false, false, [(.d .nilf)], [], 0, 0, false⟩) := by kernel_rfl
theorem T153 : cfg.T 153 = (.some ⟨.ptr, 1, false, false, [(.d .nilp)], [], 0, 0, false⟩) := by kernel_rfl
theorem T154 : cfg.T 154 = (.some ⟨.func, 1, false, false, [(.d .nilf)], [], 0, 0, false⟩) := by kernel_rfl
theorem T155 : cfg.T 155 = (.some ⟨.func, 1, false, false, [(.d .nilf)], [], 0, 0, false⟩) := by kernel_rfl
theorem T156 : cfg.T 156 = (.some ⟨.func, 1, false, false, [(.d .nilf)], [], 0, 0, false⟩) := by kernel_rfl
theorem T157 : cfg.T 157 = (.some ⟨.func, 1, false, false, [(.d .nilf)], [], 0, 0, false⟩) := by kernel_rfl
theorem T158 : cfg.T 158 = (.some ⟨.func, 1, false, false, [(.d .nilf)], [], 0, 0, false⟩) := by kernel_rfl
theorem T159 : cfg.T 159 = (.some ⟨.func, 1, false, false, [(.d .nilf)], [], 0, 0, false⟩) := by kernel_rfl
theorem T160 : cfg.T 160 = (.some ⟨.func, 1, false, false, [(.d .nilf)], [], 0, 0, false⟩) := by kernel_rfl
theorem T161 : cfg.T 161 = (.some ⟨.other, 8, true, true, [.nils, .nils, .nils, (.d (.int .i64 0)), .nils, .nils, .nils, (.d (.bool false))], [(0, 4, true), (4, 1, false), (5, 1, false), (6, 1, false), (7, 1, false)], 0, 0, false⟩) := by kernel_rfl
theorem T162 : cfg.T 162 = (.some ⟨.other, 8, true, true, [.nils, .nils, .nils, (.d (.int .i64 0)), .nils, .nils, .nils, (.d (.bool false))], [(0, 4, true), (4, 1, false), (5, 1, false), (6, 1, false), (7, 1, false)], 0, 0, false⟩) := by kernel_rfl
theorem T163 : cfg.T 163 = (.some ⟨.ptr, 1, false, false, [(.d .nilp)], [], 0, 0, false⟩) := by kernel_rfl
theorem T164 : cfg.T 164 = (.some ⟨.func, 1, false, false, [(.d .nilf)], [], 0, 0, false⟩) := by kernel_rfl
theorem T165 : cfg.T 165 = (.some ⟨.other, 1, false, false, [.undef], [], 0, 0, false⟩) := by kernel_rfl
theorem T166 : cfg.T 166 = (.some ⟨.func, 1, false, false, [(.d .nilf)], [], 0, 0, false⟩) := by kernel_rfl
theorem T167 : cfg.T 167 = (.some ⟨.other, 1, false, false, [.undef], [], 0, 0, false⟩) := by kernel_rfl
theorem T168 : cfg.T 168 = (.some ⟨.func, 1, false, false, [(.d .nilf)], [], 0, 0, false⟩) := by kernel_rfl
theorem T169 : cfg.T 169 = (.some ⟨.ptr, 1, false, false, [(.d .nilp)], [], 0, 0, false⟩) := by kernel_rfl
theorem T170 : cfg.T 170 = (.some ⟨.other, 11, true, true, [.nils, .nils, .nils, (.d (.int .i64 0)), .nils, .nils, .nils, .nils, .nils, (.d (.int .i64 0)), (.d (.bool false))], [(0, 4, true), (4, 4, true), (8, 1, false), (9, 1, false), (10, 1, false)], 0, 0, false⟩) := by kernel_rfl
theorem T171 : cfg.T 171 = (.some ⟨.other, 11, true, true, [.nils, .nils, .nils, (.d (.int .i64 0)), .nils, .nils, .nils, .nils, .nils, (.d (.int .i64 0)), (.d (.bool false))], [(0, 4, true), (4, 4, true), (8, 1, false), (9, 1, false), (10, 1, false)], 0, 0, false⟩) := by kernel_rfl
theorem T172 : cfg.T 172 = (.some ⟨.func, 1, false, false, [(.d .nilf)], [], 0, 0, false⟩) := by kernel_rfl
theorem T173 : cfg.T 173 = (.some ⟨.map, 1, false, false, [(.d .nilm)], [], 3, 3, false⟩) := by kernel_rfl
theorem T174 : cfg.T 174 = (.some ⟨.func, 1, false, false, [(.d .nilf)], [], 0, 0, false⟩) := by kernel_rfl
theorem T175 : cfg.T 175 = (.some ⟨.func, 1, false, false, [(.d .nilf)], [], 0, 0, false⟩) := by kernel_rfl
theorem T176 : cfg.T 176 = (.some ⟨(.flat [.int]), 1, true, true, [(.d (.int .i64 0))], [(0, 1, false)], 0, 0, false⟩) := by kernel_rfl
theorem T177 : cfg.T 177 = (.some ⟨(.flat [.int]), 1, true, true, [(.d (.int .i64 0))], [(0, 1, false)], 0, 0, false⟩) := by kernel_rfl
theorem T178 : cfg.T 178 = (.some ⟨.other, 1, false, false, [.undef], [], 0, 0, false⟩) := by kernel_rfl
theorem T179 : cfg.T 179 = (.some ⟨.func, 1, false, false, [(.d .nilf)], [], 0, 0, false⟩) := by kernel_rfl
theorem T180 : cfg.T 180 = (.some ⟨.func, 1, false, false, [(.d .nilf)], [], 0, 0, false⟩) := by kernel_rfl
theorem T181 : cfg.T 181 = (.some ⟨.func, 1, false, false, [(.d .nilf)], [], 0, 0, false⟩) := by kernel_rfl
theorem T182 : cfg.T 182 = (.some ⟨.func, 1, false, false, [(.d .nilf)], [], 0, 0, false⟩) := by kernel_rfl
theorem T183 : cfg.T 183 = (.some ⟨.func, 1, false, false, [(.d .nilf)], [], 0, 0, false⟩) := by kernel_rfl
theorem T184 : cfg.T 184 = (.some ⟨.func, 1, false, false, [(.d .nilf)], [], 0, 0, false⟩) := by kernel_rfl
theorem T185 : cfg.T 185 = (.some ⟨.func, 1, false, false, [(.d .nilf)], [], 0, 0, false⟩) := by kernel_rfl
theorem T186 : cfg.T 186 = (.some ⟨(.flat [.int, .int]), 2, true, true, [(.d (.int .i64 0)), (.d (.int .i64 0))], [(0, 1, false), (1, 1, false)], 0, 0, false⟩) := by kernel_rfl
theorem T187 : cfg.T 187 = (.some ⟨(.flat [.int, .int]), 2, true, true, [(.d (.int .i64 0)), (.d (.int .i64 0))], [(0, 1, false), (1, 1, false)], 0, 0, false⟩) := by kernel_rfl
theorem T188 : cfg.T 188 = (.some ⟨(.flat [.int, .int]), 2, true, true, [(.d (.int .i64 0)), (.d (.int .i64 0))], [(0, 1, false), (1, 1, false)], 0, 0, false⟩) := by kernel_rfl
theorem T189 : cfg.T 189 = (.some ⟨(.flat [.int, .int]), 2, true, true, [(.d (.int .i64 0)), (.d (.int .i64 0))], [(0, 1, false), (1, 1, false)], 0, 0, false⟩) := by kernel_rfl
theorem T190 : cfg.T 190 = (.some ⟨.func, 1, false, false, [(.d .nilf)], [], 0, 0, false⟩) := by kernel_rfl
theorem T191 : cfg.T 191 = (.some ⟨.func, 1, false, false, [(.d .nilf)], [], 0, 0, false⟩) := by kernel_rfl
theorem T192 : cfg.T 192 = (.some ⟨.func, 1, false, false, [(.d .nilf)], [], 0, 0, false⟩) := by kernel_rfl
theorem T193 : cfg.T 193 = (.some ⟨.func, 1, false, false, [(.d .nilf)], [], 0, 0, false⟩) := by kernel_rfl
theorem T194 : cfg.T 194 = (.some ⟨.func, 1, false, false, [(.d .nilf)], [], 0, 0, false⟩) := by kernel_rfl
theorem T195 : cfg.T 195 = (.some ⟨.func, 1, false, false, [(.d .nilf)], [], 0, 0, false⟩) := by kernel_rfl
theorem T196 : cfg.T 196 = (.some ⟨.func, 1, false, false, [(.d .nilf)], [], 0, 0, false⟩) := by kernel_rfl
theorem T197 : cfg.T 197 = (.some ⟨.func, 1, false, false, [(.d .nilf)], [], 0, 0, false⟩) := by kernel_rfl
theorem T198 : cfg.T 198 = (.some ⟨.func, 1, false, false, [(.d .nilf)], [], 0, 0, false⟩) := by kernel_rfl
theorem T199 : cfg.T 199 = (.some ⟨.func, 1, false, false, [(.d .nilf)], [], 0, 0, false⟩) := by kernel_rfl
theorem T200 : cfg.T 200 = (.some ⟨.other, 3, true, true, [(.d (.int .i64 0)), (.d (.int .i64 0)), .nils], [(0, 1, false), (1, 1, false), (2, 1, false)], 0, 0, false⟩) := by kernel_rfl
theorem T201 : cfg.T 201 = (.some ⟨.other, 3, true, true, [(.d (.int .i64 0)), (.d (.int .i64 0)), .nils], [(0, 1, false), (1, 1, false), (2, 1, false)], 0, 0, false⟩) := by kernel_rfl
theorem T202 : cfg.T 202 = (.some ⟨.func, 1, false, false, [(.d .nilf)], [], 0, 0, false⟩) := by kernel_rfl
theorem T203 : cfg.T 203 = (.some ⟨.func, 1, false, false, [(.d .nilf)], [], 0, 0, false⟩) := by kernel_rfl
theorem T204 : cfg.T 204 = (.some ⟨.func, 1, false, false, [(.d .nilf)], [], 0, 0, false⟩) := by kernel_rfl
theorem T205 : cfg.T 205 = (.some ⟨.func, 1, false, false, [(.d .nilf)], [], 0, 0, false⟩) := by kernel_rfl
theorem T206 : cfg.T 206 = (.some ⟨.func, 1, false, false, [(.d .nilf)], [], 0, 0, false⟩) := by kernel_rfl
theorem T207 : cfg.T 207 = (.some ⟨.func, 1, false, false, [(.d .nilf)], [], 0, 0, false⟩) := by kernel_rfl
theorem T208 : cfg.T 208 = (.some ⟨.func, 1, false, false, [(.d .nilf)], [], 0, 0, false⟩) := by kernel_rfl
theorem T209 : cfg.T 209 = (.some ⟨.func, 1, false, false, [(.d .nilf)], [], 0, 0, false⟩) := by kernel_rfl
theorem T210 : cfg.T 210 = (.some ⟨.func, 1, false, false, [(.d .nilf)], [], 0, 0, false⟩) := by kernel_rfl
theorem T211 : cfg.T 211 = (.some ⟨.func, 1, false, false, [(.d .nilf)], [], 0, 0, false⟩) := by kernel_rfl
theorem T212 : cfg.T 212 = (.some ⟨.ptr, 1, false, false, [(.d .nilp)], [], 0, 0, false⟩) := by kernel_rfl
theorem T213 : cfg.T 213 = (.some ⟨.func, 1, false, false, [(.d .nilf)], [], 0, 0, false⟩) := by kernel_rfl
theorem T214 : cfg.T 214 = (.some ⟨.func, 1, false, false, [(.d .nilf)], [], 0, 0, false⟩) := by kernel_rfl
theorem T215 : cfg.T 215 = (.some ⟨.func, 1, false, false, [(.d .nilf)], [], 0, 0, false⟩) := by kernel_rfl
theorem T216 : cfg.T 216 = (.some ⟨.func, 1, false, false, [(.d .nilf)], [], 0, 0, false⟩) := by kernel_rfl
theorem T217 : cfg.T 217 = (.some ⟨.func, 1, false, false, [(.d .nilf)], [], 0, 0, false⟩) := by kernel_rfl
theorem T218 : cfg.T 218 = (.some ⟨.func, 1, false, false, [(.d .nilf)], [], 0, 0, false⟩) := by kernel_rfl
theorem T219 : cfg.T 219 = (.some ⟨.slice, 1, false, false, [.nils], [], 258, 0, false⟩) := by kernel_rfl
theorem T220 : cfg.T 220 = (.some ⟨.other, 7, true, true, [.nils, .nils, .nils, (.d (.int .i64 0)), .nils, .nils, .nils], [(0, 4, true), (4, 1, false), (5, 1, false), (6, 1, false)], 0, 0, false⟩) := by kernel_rfl
theorem T221 : cfg.T 221 = (.some ⟨.other, 7, true, true, [.nils, .nils, .nils, (.d (.int .i64 0)), .nils, .nils, .nils], [(0, 4, true), (4, 1, false), (5, 1, false), (6, 1, false)], 0, 0, false⟩) := by kernel_rfl
theorem T222 : cfg.T 222 = (.some ⟨.func, 1, false, false, [(.d .nilf)], [], 0, 0, false⟩) := by kernel_rfl
theorem T223 : cfg.T 223 = (.some ⟨.func, 1, false, false, [(.d .nilf)], [], 0, 0, false⟩) := by kernel_rfl
theorem T224 : cfg.T 224 = (.some ⟨.int, 1, false, false, [(.d (.int .i64 0))], [], 0, 0, false⟩) := by kernel_rfl
theorem T225 : cfg.T 225 = (.some ⟨.func, 1, false, false, [(.d .nilf)], [], 0, 0, false⟩) := by kernel_rfl
theorem T226 : cfg.T 226 = (.some ⟨.func, 1, false, false, [(.d .nilf)], [], 0, 0, false⟩) := by kernel_rfl
theorem T227 : cfg.T 227 = (.some ⟨.func, 1, false, false, [(.d .nilf)], [], 0, 0, false⟩) := by kernel_rfl
theorem T228 : cfg.T 228 = (.some ⟨.func, 1, false, false, [(.d .nilf)], [], 0, 0, false⟩) := by kernel_rfl
theorem T229 : cfg.T 229 = (.some ⟨.func, 1, false, false, [(.d .nilf)], [], 0, 0, false⟩) := by kernel_rfl
theorem T230 : cfg.T 230 = (.some ⟨.func, 1, false, false, [(.d .nilf)], [], 0, 0, false⟩) := by kernel_rfl
theorem T231 : cfg.T 231 = (.some ⟨.func, 1, false, false, [(.d .nilf)], [], 0, 0, false⟩) := by kernel_rfl
theorem T232 : cfg.T 232 = (.some ⟨.func, 1, false, false, [(.d .nilf)], [], 0, 0, false⟩) := by kernel_rfl
theorem T233 : cfg.T 233 = (.some ⟨.func, 1, false, false, [(.d .nilf)], [], 0, 0, false⟩) := by kernel_rfl
theorem T234 : cfg.T 234 = (.some ⟨.func, 1, false, false, [(.d .nilf)], [], 0, 0, false⟩) := by kernel_rfl
theorem T235 : cfg.T 235 = (.some ⟨.func, 1, false, false, [(.d .nilf)], [], 0, 0, false⟩) := by kernel_rfl
theorem T236 : cfg.T 236 = (.some ⟨.func, 1, false, false, [(.d .nilf)], [], 0, 0, false⟩) := by kernel_rfl
theorem T237 : cfg.T 237 = (.some ⟨.func, 1, false, false, [(.d .nilf)], [], 0, 0, false⟩) := by kernel_rfl
theorem T238 : cfg.T 238 = (.some ⟨.func, 1, false, false, [(.d .nilf)], [], 0, 0, false⟩) := by kernel_rfl
theorem T239 : cfg.T 239 = (.some ⟨.func, 1, false, false, [(.d .nilf)], [], 0, 0, false⟩) := by kernel_rfl
theorem T240 : cfg.T 240 = (.some ⟨.func, 1, false, false, [(.d .nilf)], [], 0, 0, false⟩) := by kernel_rfl
theorem T241 : cfg.T 241 = (.some ⟨.ptr, 1, false, false, [(.d .nilp)], [], 0, 0, false⟩) := by kernel_rfl
theorem T242 : cfg.T 242 = (.some ⟨.func, 1, false, false, [(.d .nilf)], [], 0, 0, false⟩) := by kernel_rfl
theorem T243 : cfg.T 243 = (.some ⟨.func, 1, false, false, [(.d .nilf)], [], 0, 0, false⟩) := by kernel_rfl
theorem T244 : cfg.T 244 = (.some ⟨.func, 1, false, false, [(.d .nilf)], [], 0, 0, false⟩) := by kernel_rfl
theorem T245 : cfg.T 245 = (.some ⟨.ptr, 1, false, false, [(.d .nilp)], [], 0, 0, false⟩) := by kernel_rfl
theorem T246 : cfg.T 246 = (.some ⟨.slice, 1, false, false, [.nils], [], 4, 0, false⟩) := by kernel_rfl
theorem T247 : cfg.T 247 = (.some ⟨.other, 7, true, true, [.nils, .nils, .nils, (.d (.int .i64 0)), .nils, .nils, .nils], [(0, 4, true), (4, 1, false), (5, 1, false), (6, 1, false)], 0, 0, false⟩) := by kernel_rfl
theorem T248 : cfg.T 248 = (.some ⟨.other, 7, true, true, [.nils, .nils, .nils, (.d (.int .i64 0)), .nils, .nils, .nils], [(0, 4, true), (4, 1, false), (5, 1, false), (6, 1, false)], 0, 0, false⟩) := by kernel_rfl
theorem T249 : cfg.T 249 = (.some ⟨.func, 1, false, false, [(.d .nilf)], [], 0, 0, false⟩) := by kernel_rfl
theorem T250 : cfg.T 250 = (.some ⟨.func, 1, false, false, [(.d .nilf)], [], 0, 0, false⟩) := by kernel_rfl
theorem T251 : cfg.T 251 = (.some ⟨.other, 1, false, false, [.undef], [], 0, 0, false⟩) := by kernel_rfl
theorem T252 : cfg.T 252 = (.some ⟨.func, 1, false, false, [(.d .nilf)], [], 0, 0, false⟩) := by kernel_rfl
theorem T253 : cfg.T 253 = (.some ⟨.func, 1, false, false, [(.d .nilf)], [], 0, 0, false⟩) := by kernel_rfl
theorem T254 : cfg.T 254 = (.some ⟨.func, 1, false, false, [(.d .nilf)], [], 0, 0, false⟩) := by kernel_rfl
theorem T255 : cfg.T 255 = (.some ⟨.func, 1, false, false, [(.d .nilf)], [], 0, 0, false⟩) := by kernel_rfl
theorem T256 : cfg.T 256 = (.some ⟨.func, 1, false, false, [(.d .nilf)], [], 0, 0, false⟩) := by kernel_rfl
theorem T257 : cfg.T 257 = (.some ⟨.func, 1, false, false, [(.d .nilf)], [], 0, 0, false⟩) := by kernel_rfl
theorem T258 : cfg.T 258 = (.some ⟨.map, 1, false, false, [(.d .nilm)], [], 276, 3, false⟩) := by kernel_rfl
theorem T259 : cfg.T 259 = (.some ⟨.func, 1, false, false, [(.d .nilf)], [], 0, 0, false⟩) := by kernel_rfl
theorem T260 : cfg.T 260 = (.some ⟨.func, 1, false, false, [(.d .nilf)], [], 0, 0, false⟩) := by kernel_rfl
theorem T261 : cfg.T 261 = (.some ⟨.func, 1, false, false, [(.d .nilf)], [], 0, 0, false⟩) := by kernel_rfl
theorem T262 : cfg.T 262 = (.some ⟨.func, 1, false, false, [(.d .nilf)], [], 0, 0, false⟩) := by kernel_rfl
theorem T263 : cfg.T 263 = (.some ⟨.func, 1, false, false, [(.d .nilf)], [], 0, 0, false⟩) := by kernel_rfl
theorem T264 : cfg.T 264 = (.some ⟨.func, 1, false, false, [(.d .nilf)], [], 0, 0, false⟩) := by kernel_rfl
theorem T265 : cfg.T 265 = (.some ⟨.func, 1, false, false, [(.d .nilf)], [], 0, 0, false⟩) := by kernel_rfl
theorem T266 : cfg.T 266 = (.some ⟨.func, 1, false, false, [(.d .nilf)], [], 0, 0, false⟩) := by kernel_rfl
theorem T267 : cfg.T 267 = (.some ⟨.func, 1, false, false, [(.d .nilf)], [], 0, 0, false⟩) := by kernel_rfl
theorem T268 : cfg.T 268 = (.some ⟨.func, 1, false, false, [(.d .nilf)], [], 0, 0, false⟩) := by kernel_rfl
theorem T269 : cfg.T 269 = (.some ⟨.func, 1, false, false, [(.d .nilf)], [], 0, 0, false⟩) := by kernel_rfl
theorem T270 : cfg.T 270 = (.some ⟨.func, 1, false, false, [(.d .nilf)], [], 0, 0, false⟩) := by kernel_rfl
theorem T271 : cfg.T 271 = (.some ⟨.func, 1, false, false, [(.d .nilf)], [], 0, 0, false⟩) := by kernel_rfl
theorem T272 : cfg.T 272 = (.some ⟨.func, 1, false, false, [(.d .nilf)], [], 0, 0, false⟩) := by kernel_rfl
theorem T273 : cfg.T 273 = (.some ⟨.func, 1, false, false, [(.d .nilf)], [], 0, 0, false⟩) := by kernel_rfl
theorem T274 : cfg.T 274 = (.some ⟨.func, 1, false, false, [(.d .nilf)], [], 0, 0, false⟩) := by kernel_rfl
theorem T275 : cfg.T 275 = (.some ⟨(.flat [.int, .int]), 2, true, true, [(.d (.int .i64 0)), (.d (.int .i64 0))], [(0, 1, false), (1, 1, false)], 0, 0, false⟩) := by kernel_rfl
theorem T276 : cfg.T 276 = (.some ⟨(.flat [.int, .int]), 2, true, true, [(.d (.int .i64 0)), (.d (.int .i64 0))], [(0, 1, false), (1, 1, false)], 0, 0, false⟩) := by kernel_rfl
theorem T277 : cfg.T 277 = (.some ⟨.int, 1, false, false, [(.d (.int .u64 0))], [], 0, 0, false⟩) := by kernel_rfl
theorem T278 : cfg.T 278 = (.some ⟨.other, 1, false, false, [.undef], [], 0, 0, false⟩) := by kernel_rfl
theorem T279 : cfg.T 279 = (.some ⟨.func, 1, false, false, [(.d .nilf)], [], 0, 0, false⟩) := by kernel_rfl
theorem T280 : cfg.T 280 = (.some ⟨.slice, 1, false, false, [.nils], [], 283, 0, false⟩) := by kernel_rfl
theorem T281 : cfg.T 281 = (.some ⟨.func, 1, false, false, [(.d .nilf)], [], 0, 0, false⟩) := by kernel_rfl
theorem T282 : cfg.T 282 = (.some ⟨.func, 1, false, false, [(.d .nilf)], [], 0, 0, false⟩) := by kernel_rfl
theorem T283 : cfg.T 283 = (.some ⟨.slice, 1, false, false, [.nils], [], 224, 0, false⟩) := by kernel_rfl
theorem T284 : cfg.T 284 = (.some ⟨.func, 1, false, false, [(.d .nilf)], [], 0, 0, false⟩) := by kernel_rfl
theorem T285 : cfg.T 285 = (.some ⟨.other, 1, false, false, [.undef], [], 0, 0, false⟩) := by kernel_rfl
theorem T286 : cfg.T 286 = (.some ⟨.func, 1, false, false, [(.d .nilf)], [], 0, 0, false⟩) := by kernel_rfl
theorem T287 : cfg.T 287 = (.some ⟨.func, 1, false, false, [(.d .nilf)], [], 0, 0, false⟩) := by kernel_rfl
theorem T288 : cfg.T 288 = (.some ⟨(.flat [.int]), 1, true, true, [(.d (.int .i64 0))], [(0, 1, false)], 0, 0, false⟩) := by kernel_rfl
theorem T289 : cfg.T 289 = (.some ⟨(.flat [.int]), 1, true, true, [(.d (.int .i64 0))], [(0, 1, false)], 0, 0, false⟩) := by kernel_rfl
theorem T290 : cfg.T 290 = (.some ⟨.other, 1, false, false, [.undef], [], 0, 0, false⟩) := by kernel_rfl
theorem T291 : cfg.T 291 = (.some ⟨.func, 1, false, false, [(.d .nilf)], [], 0, 0, false⟩) := by kernel_rfl
theorem T292 : cfg.T 292 = (.some ⟨.int, 1, false, false, [(.d (.int .u32 0))], [], 0, 0, false⟩) := by kernel_rfl
theorem T293 : cfg.T 293 = (.some ⟨.other, 1, false, false, [.undef], [], 0, 0, false⟩) := by kernel_rfl
theorem T294 : cfg.T 294 = (.some ⟨.func, 1, false, false, [(.d .nilf)], [], 0, 0, false⟩) := by kernel_rfl
theorem T295 : cfg.T 295 = (.some ⟨.int, 1, false, false, [(.d (.int .u64 0))], [], 0, 0, false⟩) := by kernel_rfl
theorem T296 : cfg.T 296 = (.some ⟨.other, 1, false, false, [.undef], [], 0, 0, false⟩) := by kernel_rfl
theorem T297 : cfg.T 297 = (.some ⟨.func, 1, false, false, [(.d .nilf)], [], 0, 0, false⟩) := by kernel_rfl
theorem T298 : cfg.T 298 = (.some ⟨.func, 1, false, false, [(.d .nilf)], [], 0, 0, false⟩) := by kernel_rfl
theorem T299 : cfg.T 299 = (.some ⟨.func, 1, false, false, [(.d .nilf)], [], 0, 0, false⟩) := by kernel_rfl
theorem T300 : cfg.T 300 = (.some ⟨.map, 1, false, false, [(.d .nilm)], [], 4, 9, false⟩) := by kernel_rfl
theorem T301 : cfg.T 301 = (.some ⟨.func, 1, false, false, [(.d .nilf)], [], 0, 0, false⟩) := by kernel_rfl
theorem T302 : cfg.T 302 = (.some ⟨.iface, 1, false, false, [(.d .nili)], [], 0, 0, false⟩) := by kernel_rfl
theorem T303 : cfg.T 303 = (.some ⟨.iface, 1, false, false, [(.d .nili)], [], 0, 0, false⟩) := by kernel_rfl
theorem T304 : cfg.T 304 = (.some ⟨.func, 1, false, false, [(.d .nilf)], [], 0, 0, false⟩) := by kernel_rfl
theorem T305 : cfg.T 305 = (.some ⟨.func, 1, false, false, [(.d .nilf)], [], 0, 0, false⟩) := by kernel_rfl
theorem T306 : cfg.T 306 = (.some ⟨(.flat []), 0, true, true, [], [], 0, 0, false⟩) := by kernel_rfl
theorem T307 : cfg.T 307 = (.some ⟨(.flat []), 0, true, true, [], [], 0, 0, false⟩) := by kernel_rfl
theorem T308 : cfg.T 308 = (.some ⟨(.flat []), 0, true, true, [], [], 0, 0, false⟩) := by kernel_rfl
theorem T309 : cfg.T 309 = (.some ⟨(.flat []), 0, true, true, [], [], 0, 0, false⟩) := by kernel_rfl
theorem T310 : cfg.T 310 = (.some ⟨(.flat []), 0, true, true, [], [], 0, 0, false⟩) := by kernel_rfl
theorem T311 : cfg.T 311 = (.some ⟨.func, 1, false, false, [(.d .nilf)], [], 0, 0, false⟩) := by kernel_rfl
theorem T312 : cfg.T 312 = (.some ⟨.func, 1, false, false, [(.d .nilf)], [], 0, 0, false⟩) := by kernel_rfl
theorem T313 : cfg.T 313 = (.some ⟨.func, 1, false, false, [(.d .nilf)], [], 0, 0, false⟩) := by kernel_rfl
theorem T314 : cfg.T 314 = (.some ⟨.int, 1, false, false, [(.d (.int .i64 0))], [], 0, 0, false⟩) := by kernel_rfl
theorem T315 : cfg.T 315 = (.some ⟨.map, 1, false, false, [(.d .nilm)], [], 4, 3, false⟩) := by kernel_rfl
theorem T316 : cfg.T 316 = (.some ⟨.func, 1, false, false, [(.d .nilf)], [], 0, 0, false⟩) := by kernel_rfl
theorem T317 : cfg.T 317 = (.some ⟨.func, 1, false, false, [(.d .nilf)], [], 0, 0, false⟩) := by kernel_rfl
theorem T318 : cfg.T 318 = (.some ⟨.func, 1, false, false, [(.d .nilf)], [], 0, 0, false⟩) := by kernel_rfl
theorem T319 : cfg.T 319 = (.some ⟨.other, 4, true, true, [(.d .nilp), (.d .nilp), (.d .nilp), (.d (.str ⟨#[]⟩))], [(0, 1, false), (1, 1, false), (2, 1, false), (3, 1, false)], 0, 0, false⟩) := by kernel_rfl
theorem T320 : cfg.T 320 = (.some ⟨.other, 4, true, true, [(.d .nilp), (.d .nilp), (.d .nilp), (.d (.str ⟨#[]⟩))], [(0, 1, false), (1, 1, false), (2, 1, false), (3, 1, false)], 0, 0, false⟩) := by kernel_rfl
theorem T321 : cfg.T 321 = (.some ⟨.other, 0, true, false, [], [], 0, 0, false⟩) := by kernel_rfl
theorem T322 : cfg.T 322 = (.some ⟨.other, 0, true, true, [], [(0, 0, true)], 0, 0, false⟩) := by kernel_rfl
theorem T323 : cfg.T 323 = (.some ⟨.other, 0, true, true, [], [(0, 0, true)], 0, 0, false⟩) := by kernel_rfl
theorem T324 : cfg.T 324 = (.some ⟨.int, 1, false, false, [(.d (.int .u8 0))], [], 0, 0, false⟩) := by kernel_rfl
theorem T325 : cfg.T 325 = (.some ⟨.int, 1, false, false, [(.d (.int .u8 0))], [], 0, 0, false⟩) := by kernel_rfl
theorem T326 : cfg.T 326 = (.some ⟨.func, 1, false, false, [(.d .nilf)], [], 0, 0, false⟩) := by kernel_rfl
theorem T327 : cfg.T 327 = (.some ⟨.ptr, 1, false, false, [(.d .nilp)], [], 0, 0, false⟩) := by kernel_rfl
theorem T328 : cfg.T 328 = (.some ⟨.int, 1, false, false, [(.d (.int .i32 0))], [], 0, 0, false⟩) := by kernel_rfl
theorem T329 : cfg.T 329 = (.some ⟨.int, 1, false, false, [(.d (.int .i32 0))], [], 0, 0, false⟩) := by kernel_rfl
end Go.Proofs
end
section
namespace Go.Proofs
open Go Go.Abs
theorem mode3 : cfg.mode 3 = .auto := by kernel_rfl
theorem mode4 : cfg.mode 4 = .auto := by kernel_rfl
theorem mode5 : cfg.mode 5 = .auto := by kernel_rfl
theorem mode6 : cfg.mode 6 = .auto := by kernel_rfl
theorem pairs6_4 : cfg.pairs 6 4 = [(0, 1), (0, 2), (0, 4), (3, 4), (0, 5), (3, 5)] := by kernel_rfl
theorem mode7 : cfg.mode 7 = .auto := by kernel_rfl
theorem pairs7_13 : cfg.pairs 7 13 = [(0, 13), (1, 13), (4, 13), (5, 13), (9, 13)] := by kernel_rfl
theorem pairs7_15 : cfg.pairs 7 15 = [(5, 6)] := by kernel_rfl
theorem pairs7_23 : cfg.pairs 7 23 = [] := by kernel_rfl
theorem live7_0 : cfg.live 7 0 = [1, 2, 5, 8] := by kernel_rfl
theorem live7_2 : cfg.live 7 2 = [1, 2, 5, 8, 11, 12, 15] := by kernel_rfl
theorem live7_4 : cfg.live 7 4 = [1, 2, 5, 8, 11, 12, 15, 16, 17, 18, 19] := by kernel_rfl
theorem alone7_15_7 : cfg.alone 7 15 7 = true := by kernel_rfl
theorem mode8 : cfg.mode 8 = .auto := by kernel_rfl
theorem pairs8_9 : cfg.pairs 8 9 = [(0, 12), (1, 12), (6, 12), (7, 12)] := by kernel_rfl
theorem pairs8_25 : cfg.pairs 8 25 = [] := by kernel_rfl
theorem live8_0 : cfg.live 8 0 = [1, 2, 5, 8] := by kernel_rfl
theorem live8_2 : cfg.live 8 2 = [1, 2, 5, 8, 9, 10, 12] := by kernel_rfl
theorem alone8_25_43 : cfg.alone 8 25 43 = true := by kernel_rfl
theorem mode9 : cfg.mode 9 = .auto := by kernel_rfl
theorem pairs9_1 : cfg.pairs 9 1 = [(2, 3), (2, 4)] := by kernel_rfl
theorem alone9_1_5 : cfg.alone 9 1 5 = true := by kernel_rfl
theorem alone9_1_8 : cfg.alone 9 1 8 = true := by kernel_rfl
theorem mode10 : cfg.mode 10 = .auto := by kernel_rfl
theorem mode11 : cfg.mode 11 = .auto := by kernel_rfl
theorem pairs11_14 : cfg.pairs 11 14 = [] := by kernel_rfl
theorem live11_0 : cfg.live 11 0 = [2, 3, 5, 7, 8] := by kernel_rfl
theorem live11_2 : cfg.live 11 2 = [2, 3, 5, 7, 8, 9, 11] := by kernel_rfl
theorem alone11_14_5 : cfg.alone 11 14 5 = true := by kernel_rfl
theorem mode12 : cfg.mode 12 = .auto := by kernel_rfl
theorem mode13 : cfg.mode 13 = .auto := by kernel_rfl
theorem pairs13_15 : cfg.pairs 13 15 = [] := by kernel_rfl
theorem pairs13_16 : cfg.pairs 13 16 = [(5, 11), (11, 13)] := by kernel_rfl
theorem live13_0 : cfg.live 13 0 = [2, 3, 7, 12, 13] := by kernel_rfl
theorem live13_2 : cfg.live 13 2 = [2, 3, 7, 12, 13, 83, 84, 85] := by kernel_rfl
theorem alone13_15_5 : cfg.alone 13 15 5 = true := by kernel_rfl
theorem alone13_16_17 : cfg.alone 13 16 17 = true := by kernel_rfl
theorem mode14 : cfg.mode 14 = .auto := by kernel_rfl
theorem pairs14_16 : cfg.pairs 14 16 = [] := by kernel_rfl
theorem pairs14_17 : cfg.pairs 14 17 = [(5, 11), (11, 13)] := by kernel_rfl
theorem pairs14_24 : cfg.pairs 14 24 = [] := by kernel_rfl
theorem live14_0 : cfg.live 14 0 = [2, 3, 7, 12, 13, 14] := by kernel_rfl
theorem live14_2 : cfg.live 14 2 = [2, 3, 7, 12, 14, 92, 93, 94] := by kernel_rfl
theorem live14_4 : cfg.live 14 4 = [2, 3, 7, 12, 14, 17, 92, 93, 94, 98, 99, 100] := by kernel_rfl
theorem alone14_16_5 : cfg.alone 14 16 5 = true := by kernel_rfl
theorem alone14_17_17 : cfg.alone 14 17 17 = true := by kernel_rfl
theorem mode15 : cfg.mode 15 = .auto := by kernel_rfl
theorem mode16 : cfg.mode 16 = .auto := by kernel_rfl
theorem mode17 : cfg.mode 17 = .auto := by kernel_rfl
theorem mode18 : cfg.mode 18 = .auto := by kernel_rfl
theorem mode19 : cfg.mode 19 = .auto := by kernel_rfl
theorem mode20 : cfg.mode 20 = .auto := by kernel_rfl
theorem mode21 : cfg.mode 21 = .auto := by kernel_rfl
theorem pairs21_7 : cfg.pairs 21 7 = [(4, 8), (7, 8)] := by kernel_rfl
theorem pairs21_8 : cfg.pairs 21 8 = [(1, 2)] := by kernel_rfl
theorem mode22 : cfg.mode 22 = .auto := by kernel_rfl
theorem pairs22_7 : cfg.pairs 22 7 = [] := by kernel_rfl
theorem live22_0 : cfg.live 22 0 = [3, 4, 5, 6, 9, 10] := by kernel_rfl
theorem alone22_7_5 : cfg.alone 22 7 5 = true := by kernel_rfl
theorem mode23 : cfg.mode 23 = .auto := by kernel_rfl
theorem pairs23_6 : cfg.pairs 23 6 = [] := by kernel_rfl
theorem pairs23_11 : cfg.pairs 23 11 = [] := by kernel_rfl
theorem pairs23_16 : cfg.pairs 23 16 = [] := by kernel_rfl
theorem pairs23_21 : cfg.pairs 23 21 = [] := by kernel_rfl
theorem live23_0 : cfg.live 23 0 = [2, 3, 5] := by kernel_rfl
theorem live23_2 : cfg.live 23 2 = [2, 3, 6] := by kernel_rfl
theorem live23_4 : cfg.live 23 4 = [2, 3, 7] := by kernel_rfl
theorem live23_6 : cfg.live 23 6 = [2, 3, 8] := by kernel_rfl
theorem alone23_11_41 : cfg.alone 23 11 41 = true := by kernel_rfl
theorem alone23_16_56 : cfg.alone 23 16 56 = true := by kernel_rfl
theorem alone23_21_41 : cfg.alone 23 21 41 = true := by kernel_rfl
theorem mode24 : cfg.mode 24 = .auto := by kernel_rfl
theorem pairs24_6 : cfg.pairs 24 6 = [] := by kernel_rfl
theorem live24_0 : cfg.live 24 0 = [0, 1, 5] := by kernel_rfl
theorem alone24_6_61 : cfg.alone 24 6 61 = true := by kernel_rfl
theorem mode25 : cfg.mode 25 = .auto := by kernel_rfl
theorem pairs25_11 : cfg.pairs 25 11 = [(7, 8)] := by kernel_rfl
theorem live25_0 : cfg.live 25 0 = [6, 7, 8, 9, 19, 20, 21] := by kernel_rfl
theorem mode26 : cfg.mode 26 = .auto := by kernel_rfl
theorem mode27 : cfg.mode 27 = .auto := by kernel_rfl
theorem live27_0 : cfg.live 27 0 = [1, 2, 4, 5, 22, 23] := by kernel_rfl
theorem mode28 : cfg.mode 28 = .auto := by kernel_rfl
theorem live28_0 : cfg.live 28 0 = [1, 2, 6, 7] := by kernel_rfl
theorem mode29 : cfg.mode 29 = .auto := by kernel_rfl
theorem pairs29_6 : cfg.pairs 29 6 = [] := by kernel_rfl
theorem live29_0 : cfg.live 29 0 = [0, 1, 5] := by kernel_rfl
theorem mode30 : cfg.mode 30 = .auto := by kernel_rfl
theorem mode31 : cfg.mode 31 = .auto := by kernel_rfl
theorem pairs31_11 : cfg.pairs 31 11 = [(7, 8)] := by kernel_rfl
theorem live31_0 : cfg.live 31 0 = [1, 2, 3, 4, 5, 6, 18, 19] := by kernel_rfl
theorem mode32 : cfg.mode 32 = .auto := by kernel_rfl
theorem pairs32_6 : cfg.pairs 32 6 = [] := by kernel_rfl
theorem pairs32_15 : cfg.pairs 32 15 = [] := by kernel_rfl
theorem live32_0 : cfg.live 32 0 = [2, 3, 5] := by kernel_rfl
theorem live32_2 : cfg.live 32 2 = [2, 3, 6, 7] := by kernel_rfl
theorem alone32_15_41 : cfg.alone 32 15 41 = true := by kernel_rfl
theorem alone32_15_60 : cfg.alone 32 15 60 = true := by kernel_rfl
theorem mode33 : cfg.mode 33 = .auto := by kernel_rfl
theorem pairs33_4 : cfg.pairs 33 4 = [] := by kernel_rfl
theorem live33_0 : cfg.live 33 0 = [0, 3, 5] := by kernel_rfl
theorem alone33_4_5 : cfg.alone 33 4 5 = true := by kernel_rfl
theorem mode34 : cfg.mode 34 = .auto := by kernel_rfl
theorem pairs34_5 : cfg.pairs 34 5 = [] := by kernel_rfl
theorem pairs34_11 : cfg.pairs 34 11 = [] := by kernel_rfl
theorem live34_0 : cfg.live 34 0 = [2, 3, 5, 6] := by kernel_rfl
theorem live34_2 : cfg.live 34 2 = [2, 3, 5, 7] := by kernel_rfl
theorem live34_4 : cfg.live 34 4 = [2, 3, 5, 7, 8] := by kernel_rfl
theorem alone34_5_7 : cfg.alone 34 5 7 = true := by kernel_rfl
theorem mode35 : cfg.mode 35 = .auto := by kernel_rfl
theorem pairs35_6 : cfg.pairs 35 6 = [] := by kernel_rfl
theorem pairs35_11 : cfg.pairs 35 11 = [] := by kernel_rfl
theorem pairs35_16 : cfg.pairs 35 16 = [] := by kernel_rfl
theorem live35_0 : cfg.live 35 0 = [2, 3, 5] := by kernel_rfl
theorem live35_2 : cfg.live 35 2 = [2, 3, 6] := by kernel_rfl
theorem live35_4 : cfg.live 35 4 = [2, 3, 7] := by kernel_rfl
theorem alone35_11_41 : cfg.alone 35 11 41 = true := by kernel_rfl
theorem mode36 : cfg.mode 36 = .auto := by kernel_rfl
theorem pairs36_1 : cfg.pairs 36 1 = [] := by kernel_rfl
theorem pairs36_3 : cfg.pairs 36 3 = [(1, 16), (3, 16), (5, 16), (6, 16), (8, 16), (9, 16), (11, 16), (13, 16), (14, 16), (15, 16)] := by kernel_rfl
theorem pairs36_7 : cfg.pairs 36 7 = [] := by kernel_rfl
theorem live36_0 : cfg.live 36 0 = [3, 5, 6, 9, 10] := by kernel_rfl
theorem mode37 : cfg.mode 37 = .auto := by kernel_rfl
theorem pairs37_6 : cfg.pairs 37 6 = [] := by kernel_rfl
theorem live37_0 : cfg.live 37 0 = [0, 1, 5] := by kernel_rfl
theorem alone37_6_10 : cfg.alone 37 6 10 = true := by kernel_rfl
theorem mode38 : cfg.mode 38 = .auto := by kernel_rfl
theorem live38_0 : cfg.live 38 0 = [1, 2, 3] := by kernel_rfl
theorem mode39 : cfg.mode 39 = .auto := by kernel_rfl
theorem mode40 : cfg.mode 40 = .auto := by kernel_rfl
theorem mode41 : cfg.mode 41 = .auto := by kernel_rfl
theorem live41_0 : cfg.live 41 0 = [1, 2, 4, 5, 13, 14, 15] := by kernel_rfl
theorem mode42 : cfg.mode 42 = .auto := by kernel_rfl
theorem pairs42_6 : cfg.pairs 42 6 = [(24, 32), (26, 32)] := by kernel_rfl
theorem live42_0 : cfg.live 42 0 = [1, 2, 4, 6] := by kernel_rfl
theorem mode43 : cfg.mode 43 = .auto := by kernel_rfl
theorem mode44 : cfg.mode 44 = .auto := by kernel_rfl
theorem mode45 : cfg.mode 45 = .auto := by kernel_rfl
theorem mode46 : cfg.mode 46 = .auto := by kernel_rfl
theorem live46_0 : cfg.live 46 0 = [1, 2, 5, 6, 7] := by kernel_rfl
theorem mode47 : cfg.mode 47 = .auto := by kernel_rfl
theorem pairs47_1 : cfg.pairs 47 1 = [] := by kernel_rfl
theorem pairs47_4 : cfg.pairs 47 4 = [(4, 8)] := by kernel_rfl
theorem pairs47_6 : cfg.pairs 47 6 = [] := by kernel_rfl
theorem pairs47_9 : cfg.pairs 47 9 = [(4, 13), (4, 14)] := by kernel_rfl
theorem live47_0 : cfg.live 47 0 = [0, 3, 18, 19, 20] := by kernel_rfl
theorem live47_2 : cfg.live 47 2 = [0, 3, 47, 48, 49] := by kernel_rfl
theorem mode48 : cfg.mode 48 = .auto := by kernel_rfl
theorem pairs48_1 : cfg.pairs 48 1 = [(0, 11), (4, 11), (5, 11), (6, 11)] := by kernel_rfl
theorem pairs48_6 : cfg.pairs 48 6 = [(4, 9), (6, 9), (7, 9), (8, 9)] := by kernel_rfl
theorem pairs48_7 : cfg.pairs 48 7 = [] := by kernel_rfl
theorem pairs48_12 : cfg.pairs 48 12 = [] := by kernel_rfl
theorem pairs48_16 : cfg.pairs 48 16 = [] := by kernel_rfl
theorem pairs48_17 : cfg.pairs 48 17 = [] := by kernel_rfl
theorem live48_0 : cfg.live 48 0 = [0, 4, 5, 7, 10, 11, 52, 53, 54] := by kernel_rfl
theorem live48_2 : cfg.live 48 2 = [0, 4, 7, 10, 85, 86] := by kernel_rfl
theorem mode49 : cfg.mode 49 = .auto := by kernel_rfl
theorem pairs49_4 : cfg.pairs 49 4 = [(4, 16), (9, 16), (11, 16), (13, 16), (14, 16), (15, 16)] := by kernel_rfl
theorem pairs49_5 : cfg.pairs 49 5 = [] := by kernel_rfl
theorem live49_0 : cfg.live 49 0 = [0, 2, 17, 18, 19] := by kernel_rfl
theorem live49_2 : cfg.live 49 2 = [0, 2, 64, 65, 66] := by kernel_rfl
theorem live49_4 : cfg.live 49 4 = [0, 2, 10, 64, 65, 66, 71, 72, 73] := by kernel_rfl
theorem mode50 : cfg.mode 50 = .auto := by kernel_rfl
theorem mode51 : cfg.mode 51 = .own := by kernel_rfl
theorem mode52 : cfg.mode 52 = .auto := by kernel_rfl
theorem pairs52_9 : cfg.pairs 52 9 = [] := by kernel_rfl
theorem pairs52_12 : cfg.pairs 52 12 = [(4, 9)] := by kernel_rfl
theorem pairs52_17 : cfg.pairs 52 17 = [(5, 9)] := by kernel_rfl
theorem live52_0 : cfg.live 52 0 = [0, 3, 13, 18, 19, 20, 102, 103, 104, 105, 106, 107, 108, 109] := by kernel_rfl
theorem live52_2 : cfg.live 52 2 = [0, 3, 13, 40, 41, 42, 102, 103, 104, 105, 106, 107, 108, 109] := by kernel_rfl
theorem live52_4 : cfg.live 52 4 = [0, 3, 6, 7, 13, 40, 41, 42, 56, 57, 58, 102, 103, 104, 105, 106, 107, 108, 109] := by kernel_rfl
theorem live52_6 : cfg.live 52 6 = [0, 3, 6, 7, 8, 10, 13, 40, 41, 42, 56, 57, 58, 77, 78, 79, 102, 103, 104, 105, 106, 107, 108, 109] := by kernel_rfl
theorem mode53 : cfg.mode 53 = .auto := by kernel_rfl
theorem pairs53_2 : cfg.pairs 53 2 = [(0, 1), (0, 2), (0, 3), (1, 3), (2, 3), (0, 5), (1, 5), (2, 5), (3, 5), (0, 8), (1, 8), (2, 8), (3, 8), (5, 8), (0, 10), (1, 10), (2, 10), (3, 10), (8, 10), (0, 12), (1, 12), (2, 12), (3, 12), (5, 12), (8, 12), (10, 12), (0, 14), (1, 14), (2, 14), (3, 14), (8, 14), (12, 14), (0, 16), (1, 16), (2, 16), (3, 16), (5, 16), (8, 16), (10, 16), (12, 16), (14, 16), (0, 19), (1, 19), (2, 19), (3, 19), (5, 19), (8, 19), (10, 19), (12, 19), (14, 19), (16, 19), (0, 21), (1, 21), (2, 21), (3, 21), (8, 21), (12, 21), (16, 21), (19, 21), (0, 23), (1, 23), (2, 23)] := by kernel_rfl
theorem mode54 : cfg.mode 54 = .auto := by kernel_rfl
theorem mode55 : cfg.mode 55 = .auto := by kernel_rfl
theorem pairs55_4 : cfg.pairs 55 4 = [(4, 9), (6, 9), (7, 9), (8, 9)] := by kernel_rfl
theorem pairs55_5 : cfg.pairs 55 5 = [] := by kernel_rfl
theorem pairs55_6 : cfg.pairs 55 6 = [(4, 9), (6, 9), (7, 9), (8, 9)] := by kernel_rfl
theorem pairs55_11 : cfg.pairs 55 11 = [] := by kernel_rfl
theorem pairs55_12 : cfg.pairs 55 12 = [] := by kernel_rfl
theorem pairs55_14 : cfg.pairs 55 14 = [] := by kernel_rfl
theorem pairs55_15 : cfg.pairs 55 15 = [] := by kernel_rfl
theorem alone55_12_10 : cfg.alone 55 12 10 = true := by kernel_rfl
theorem alone55_14_10 : cfg.alone 55 14 10 = true := by kernel_rfl
theorem alone55_15_9 : cfg.alone 55 15 9 = true := by kernel_rfl
theorem mode56 : cfg.mode 56 = .auto := by kernel_rfl
theorem pairs56_1 : cfg.pairs 56 1 = [(0, 2)] := by kernel_rfl
theorem mode57 : cfg.mode 57 = .auto := by kernel_rfl
theorem pairs57_6 : cfg.pairs 57 6 = [] := by kernel_rfl
theorem live57_0 : cfg.live 57 0 = [0, 1, 5] := by kernel_rfl
theorem mode58 : cfg.mode 58 = .auto := by kernel_rfl
theorem mode59 : cfg.mode 59 = .raw := by kernel_rfl
theorem mode60 : cfg.mode 60 = .auto := by kernel_rfl
theorem pairs60_8 : cfg.pairs 60 8 = [(0, 18), (1, 18), (5, 18), (6, 18), (9, 18), (11, 18), (12, 18), (13, 18)] := by kernel_rfl
theorem pairs60_11 : cfg.pairs 60 11 = [(0, 3)] := by kernel_rfl
theorem live60_0 : cfg.live 60 0 = [2, 3, 4, 6, 9, 10] := by kernel_rfl
theorem mode61 : cfg.mode 61 = .auto := by kernel_rfl
theorem live61_0 : cfg.live 61 0 = [0, 17, 18] := by kernel_rfl
theorem live61_2 : cfg.live 61 2 = [0, 3, 4, 17, 18] := by kernel_rfl
theorem mode62 : cfg.mode 62 = .auto := by kernel_rfl
theorem mode63 : cfg.mode 63 = .auto := by kernel_rfl
theorem live63_0 : cfg.live 63 0 = [0, 1, 2] := by kernel_rfl
theorem mode64 : cfg.mode 64 = .auto := by kernel_rfl
theorem live64_0 : cfg.live 64 0 = [1, 3] := by kernel_rfl
theorem live64_2 : cfg.live 64 2 = [1, 3, 4, 5] := by kernel_rfl
theorem mode65 : cfg.mode 65 = .own := by kernel_rfl
theorem pairs65_3 : cfg.pairs 65 3 = [(0, 5)] := by kernel_rfl
theorem pairs65_8 : cfg.pairs 65 8 = [] := by kernel_rfl
theorem live65_0 : cfg.live 65 0 = [3, 5, 25, 26, 27] := by kernel_rfl
theorem mode66 : cfg.mode 66 = .auto := by kernel_rfl
theorem pairs66_2 : cfg.pairs 66 2 = [] := by kernel_rfl
theorem mode67 : cfg.mode 67 = .auto := by kernel_rfl
theorem pairs67_7 : cfg.pairs 67 7 = [] := by kernel_rfl
theorem pairs67_19 : cfg.pairs 67 19 = [] := by kernel_rfl
theorem live67_0 : cfg.live 67 0 = [2, 3, 5, 6, 7, 8] := by kernel_rfl
theorem live67_2 : cfg.live 67 2 = [2, 3, 5, 6, 7, 8, 9, 10, 11, 12] := by kernel_rfl
theorem live67_4 : cfg.live 67 4 = [2, 3, 5, 6, 7, 8, 10, 14] := by kernel_rfl
theorem alone67_7_40 : cfg.alone 67 7 40 = true := by kernel_rfl
theorem mode68 : cfg.mode 68 = .auto := by kernel_rfl
theorem mode69 : cfg.mode 69 = .auto := by kernel_rfl
theorem mode70 : cfg.mode 70 = .auto := by kernel_rfl
theorem pairs70_4 : cfg.pairs 70 4 = [] := by kernel_rfl
theorem live70_0 : cfg.live 70 0 = [2, 3, 4, 7] := by kernel_rfl
theorem alone70_4_6 : cfg.alone 70 4 6 = true := by kernel_rfl
theorem mode71 : cfg.mode 71 = .auto := by kernel_rfl
theorem mode72 : cfg.mode 72 = .auto := by kernel_rfl
theorem pairs72_4 : cfg.pairs 72 4 = [(1, 6)] := by kernel_rfl
theorem pairs72_11 : cfg.pairs 72 11 = [] := by kernel_rfl
theorem live72_0 : cfg.live 72 0 = [5, 9, 11, 12, 13, 14] := by kernel_rfl
theorem mode73 : cfg.mode 73 = .raw := by kernel_rfl
theorem live73_0 : cfg.live 73 0 = [0, 1, 2, 3, 4, 11] := by kernel_rfl
theorem mode74 : cfg.mode 74 = .auto := by kernel_rfl
theorem mode75 : cfg.mode 75 = .auto := by kernel_rfl
theorem pairs75_6 : cfg.pairs 75 6 = [(5, 8), (6, 8), (5, 9), (6, 9), (5, 10), (6, 10)] := by kernel_rfl
theorem alone75_6_12 : cfg.alone 75 6 12 = true := by kernel_rfl
theorem alone75_6_13 : cfg.alone 75 6 13 = true := by kernel_rfl
theorem mode76 : cfg.mode 76 = .auto := by kernel_rfl
theorem mode77 : cfg.mode 77 = .auto := by kernel_rfl
theorem mode78 : cfg.mode 78 = .auto := by kernel_rfl
theorem pairs78_6 : cfg.pairs 78 6 = [(5, 8), (6, 8), (5, 9), (6, 9), (5, 10), (6, 10)] := by kernel_rfl
theorem alone78_6_12 : cfg.alone 78 6 12 = true := by kernel_rfl
theorem alone78_6_13 : cfg.alone 78 6 13 = true := by kernel_rfl
theorem mode79 : cfg.mode 79 = .auto := by kernel_rfl
theorem mode80 : cfg.mode 80 = .auto := by kernel_rfl
theorem mode81 : cfg.mode 81 = .auto := by kernel_rfl
theorem mode82 : cfg.mode 82 = .auto := by kernel_rfl
theorem mode83 : cfg.mode 83 = .own := by kernel_rfl
theorem pairs83_8 : cfg.pairs 83 8 = [] := by kernel_rfl
theorem pairs83_13 : cfg.pairs 83 13 = [(6, 8), (6, 9), (4, 10), (5, 10), (6, 10), (6, 12), (10, 12), (6, 13), (10, 13), (4, 14), (5, 14), (6, 14), (8, 14), (9, 14), (10, 14), (8, 17), (9, 17), (10, 17), (12, 17), (13, 17), (14, 17), (12, 20), (13, 20), (14, 20)] := by kernel_rfl
theorem live83_0 : cfg.live 83 0 = [1, 3, 4] := by kernel_rfl
theorem live83_2 : cfg.live 83 2 = [1, 3, 5] := by kernel_rfl
theorem live83_4 : cfg.live 83 4 = [3, 6] := by kernel_rfl
theorem live83_6 : cfg.live 83 6 = [3, 7] := by kernel_rfl
theorem mode84 : cfg.mode 84 = .auto := by kernel_rfl
theorem alone84_14_15 : cfg.alone 84 14 15 = true := by kernel_rfl
theorem mode85 : cfg.mode 85 = .auto := by kernel_rfl
theorem mode86 : cfg.mode 86 = .auto := by kernel_rfl
theorem pairs86_14 : cfg.pairs 86 14 = [(7, 14), (9, 14), (10, 14)] := by kernel_rfl
theorem live86_0 : cfg.live 86 0 = [1, 6, 26, 27] := by kernel_rfl
theorem live86_2 : cfg.live 86 2 = [1, 6, 7, 26, 27, 34, 35, 36] := by kernel_rfl
theorem alone86_14_15 : cfg.alone 86 14 15 = true := by kernel_rfl
theorem mode87 : cfg.mode 87 = .auto := by kernel_rfl
theorem pairs87_19 : cfg.pairs 87 19 = [(5, 9), (5, 11)] := by kernel_rfl
theorem mode88 : cfg.mode 88 = .auto := by kernel_rfl
theorem pairs88_3 : cfg.pairs 88 3 = [(7, 8)] := by kernel_rfl
theorem mode89 : cfg.mode 89 = .auto := by kernel_rfl
theorem mode90 : cfg.mode 90 = .auto := by kernel_rfl
theorem mode91 : cfg.mode 91 = .ro := by kernel_rfl
theorem pairs91_5 : cfg.pairs 91 5 = [] := by kernel_rfl
theorem pairs91_11 : cfg.pairs 91 11 = [] := by kernel_rfl
theorem pairs91_13 : cfg.pairs 91 13 = [] := by kernel_rfl
theorem pairs91_14 : cfg.pairs 91 14 = [(4, 9), (6, 9), (7, 9), (8, 9)] := by kernel_rfl
theorem pairs91_30 : cfg.pairs 91 30 = [(12, 17)] := by kernel_rfl
theorem pairs91_31 : cfg.pairs 91 31 = [] := by kernel_rfl
theorem pairs91_38 : cfg.pairs 91 38 = [] := by kernel_rfl
theorem pairs91_45 : cfg.pairs 91 45 = [] := by kernel_rfl
theorem pairs91_46 : cfg.pairs 91 46 = [] := by kernel_rfl
theorem pairs91_51 : cfg.pairs 91 51 = [] := by kernel_rfl
theorem live91_0 : cfg.live 91 0 = [0, 65, 66, 67] := by kernel_rfl
theorem live91_2 : cfg.live 91 2 = [0, 4, 5, 92, 93, 94] := by kernel_rfl
theorem live91_4 : cfg.live 91 4 = [0, 4, 5, 6, 7, 8, 9, 92, 93, 94, 155, 156] := by kernel_rfl
theorem live91_6 : cfg.live 91 6 = [0, 4, 5, 6, 7, 8, 9, 92, 93, 94, 172, 173] := by kernel_rfl
theorem live91_8 : cfg.live 91 8 = [0, 4, 5, 6, 7, 8, 92, 93, 94, 192, 193, 194] := by kernel_rfl
theorem live91_10 : cfg.live 91 10 = [0, 4, 5, 6, 7, 8, 13, 92, 93, 94, 192, 193, 194, 255, 256, 257] := by kernel_rfl
theorem live91_12 : cfg.live 91 12 = [0, 303, 304, 305] := by kernel_rfl
theorem alone91_5_15 : cfg.alone 91 5 15 = true := by kernel_rfl
theorem alone91_11_14 : cfg.alone 91 11 14 = true := by kernel_rfl
theorem alone91_13_11 : cfg.alone 91 13 11 = true := by kernel_rfl
theorem alone91_30_20 : cfg.alone 91 30 20 = true := by kernel_rfl
theorem alone91_31_23 : cfg.alone 91 31 23 = true := by kernel_rfl
theorem alone91_45_27 : cfg.alone 91 45 27 = true := by kernel_rfl
theorem alone91_51_11 : cfg.alone 91 51 11 = true := by kernel_rfl
theorem mode92 : cfg.mode 92 = .own := by kernel_rfl
theorem pairs92_1 : cfg.pairs 92 1 = [(2, 4), (2, 7), (5, 7), (2, 10), (5, 10), (8, 10)] := by kernel_rfl
theorem alone92_1_11 : cfg.alone 92 1 11 = true := by kernel_rfl
theorem mode93 : cfg.mode 93 = .ro := by kernel_rfl
theorem pairs93_1 : cfg.pairs 93 1 = [(4, 9), (6, 9), (7, 9), (8, 9)] := by kernel_rfl
theorem pairs93_8 : cfg.pairs 93 8 = [] := by kernel_rfl
theorem pairs93_9 : cfg.pairs 93 9 = [] := by kernel_rfl
theorem alone93_9_26 : cfg.alone 93 9 26 = true := by kernel_rfl
theorem mode94 : cfg.mode 94 = .ro := by kernel_rfl
theorem mode95 : cfg.mode 95 = .ro := by kernel_rfl
theorem pairs95_1 : cfg.pairs 95 1 = [(4, 9), (6, 9), (7, 9), (8, 9)] := by kernel_rfl
theorem mode96 : cfg.mode 96 = .own := by kernel_rfl
theorem mode97 : cfg.mode 97 = .auto := by kernel_rfl
theorem mode98 : cfg.mode 98 = .auto := by kernel_rfl
theorem mode99 : cfg.mode 99 = .auto := by kernel_rfl
theorem pairs99_6 : cfg.pairs 99 6 = [] := by kernel_rfl
theorem live99_0 : cfg.live 99 0 = [0, 1, 12, 13] := by kernel_rfl
theorem mode100 : cfg.mode 100 = .auto := by kernel_rfl
theorem pairs100_1 : cfg.pairs 100 1 = [(4, 9), (6, 9), (7, 9), (8, 9)] := by kernel_rfl
theorem pairs100_2 : cfg.pairs 100 2 = [(4, 14), (6, 14), (7, 14), (9, 14), (11, 14), (12, 14), (13, 14)] := by kernel_rfl
theorem pairs100_7 : cfg.pairs 100 7 = [(4, 8)] := by kernel_rfl
theorem pairs100_8 : cfg.pairs 100 8 = [] := by kernel_rfl
theorem pairs100_9 : cfg.pairs 100 9 = [] := by kernel_rfl
theorem pairs100_13 : cfg.pairs 100 13 = [(2, 6), (2, 8)] := by kernel_rfl
theorem live100_0 : cfg.live 100 0 = [0, 3, 4, 5, 6, 35, 36, 37] := by kernel_rfl
theorem alone100_13_9 : cfg.alone 100 13 9 = true := by kernel_rfl
theorem mode101 : cfg.mode 101 = .raw := by kernel_rfl
theorem pairs101_5 : cfg.pairs 101 5 = [] := by kernel_rfl
theorem mode102 : cfg.mode 102 = .auto := by kernel_rfl
theorem pairs102_8 : cfg.pairs 102 8 = [(0, 7)] := by kernel_rfl
theorem pairs102_12 : cfg.pairs 102 12 = [] := by kernel_rfl
theorem live102_0 : cfg.live 102 0 = [1, 2, 15, 16] := by kernel_rfl
theorem live102_2 : cfg.live 102 2 = [2, 51, 52, 53] := by kernel_rfl
theorem mode103 : cfg.mode 103 = .auto := by kernel_rfl
theorem pairs103_0 : cfg.pairs 103 0 = [(4, 10), (4, 12)] := by kernel_rfl
theorem mode104 : cfg.mode 104 = .own := by kernel_rfl
theorem pairs104_5 : cfg.pairs 104 5 = [(1, 20), (3, 20), (5, 20), (7, 20), (9, 20), (11, 20), (13, 20), (1, 22)] := by kernel_rfl
theorem pairs104_9 : cfg.pairs 104 9 = [(1, 19), (3, 19), (5, 19), (7, 19), (9, 19), (11, 19), (13, 19), (15, 19), (17, 19)] := by kernel_rfl
theorem pairs104_13 : cfg.pairs 104 13 = [(1, 12), (1, 14)] := by kernel_rfl
theorem pairs104_18 : cfg.pairs 104 18 = [(1, 20), (3, 20), (5, 20), (7, 20), (9, 20), (11, 20), (13, 20), (1, 22)] := by kernel_rfl
theorem live104_0 : cfg.live 104 0 = [1, 2, 3, 4] := by kernel_rfl
theorem live104_2 : cfg.live 104 2 = [1, 2, 3, 5] := by kernel_rfl
theorem live104_4 : cfg.live 104 4 = [1, 2, 3, 5, 6, 7] := by kernel_rfl
theorem live104_6 : cfg.live 104 6 = [1, 2, 3, 8] := by kernel_rfl
theorem mode105 : cfg.mode 105 = .auto := by kernel_rfl
theorem pairs105_1 : cfg.pairs 105 1 = [(1, 6), (1, 8), (1, 14), (9, 14), (1, 17), (9, 17)] := by kernel_rfl
theorem pairs105_2 : cfg.pairs 105 2 = [(4, 9), (6, 9), (7, 9), (8, 9)] := by kernel_rfl
theorem pairs105_6 : cfg.pairs 105 6 = [(4, 9)] := by kernel_rfl
theorem pairs105_7 : cfg.pairs 105 7 = [] := by kernel_rfl
theorem pairs105_8 : cfg.pairs 105 8 = [] := by kernel_rfl
theorem pairs105_10 : cfg.pairs 105 10 = [(4, 8)] := by kernel_rfl
theorem pairs105_13 : cfg.pairs 105 13 = [(4, 15)] := by kernel_rfl
theorem pairs105_14 : cfg.pairs 105 14 = [] := by kernel_rfl
theorem alone105_8_9 : cfg.alone 105 8 9 = true := by kernel_rfl
theorem alone105_14_9 : cfg.alone 105 14 9 = true := by kernel_rfl
theorem mode106 : cfg.mode 106 = .auto := by kernel_rfl
theorem pairs106_1 : cfg.pairs 106 1 = [(4, 9), (6, 9), (7, 9), (8, 9)] := by kernel_rfl
theorem pairs106_2 : cfg.pairs 106 2 = [(4, 9), (6, 9), (7, 9), (8, 9)] := by kernel_rfl
theorem pairs106_9 : cfg.pairs 106 9 = [] := by kernel_rfl
theorem pairs106_12 : cfg.pairs 106 12 = [(4, 6), (6, 9), (6, 11), (6, 12), (6, 13), (4, 14), (6, 17), (14, 17), (6, 19), (14, 19), (6, 20), (14, 20), (6, 22), (14, 22), (4, 23)] := by kernel_rfl
theorem pairs106_13 : cfg.pairs 106 13 = [] := by kernel_rfl
theorem pairs106_14 : cfg.pairs 106 14 = [(4, 11), (7, 11), (9, 11), (4, 13)] := by kernel_rfl
theorem pairs106_15 : cfg.pairs 106 15 = [(2, 6), (2, 8)] := by kernel_rfl
theorem live106_0 : cfg.live 106 0 = [0, 3, 4, 6, 7, 8, 9] := by kernel_rfl
theorem alone106_13_7 : cfg.alone 106 13 7 = true := by kernel_rfl
theorem alone106_15_9 : cfg.alone 106 15 9 = true := by kernel_rfl
theorem mode107 : cfg.mode 107 = .auto := by kernel_rfl
theorem mode108 : cfg.mode 108 = .raw := by kernel_rfl
theorem mode109 : cfg.mode 109 = .auto := by kernel_rfl
theorem mode110 : cfg.mode 110 = .auto := by kernel_rfl
theorem pairs110_1 : cfg.pairs 110 1 = [(4, 9), (6, 9), (7, 9), (8, 9)] := by kernel_rfl
theorem pairs110_13 : cfg.pairs 110 13 = [] := by kernel_rfl
theorem pairs110_14 : cfg.pairs 110 14 = [] := by kernel_rfl
theorem live110_0 : cfg.live 110 0 = [0, 3, 4, 5, 20, 21, 22] := by kernel_rfl
theorem mode111 : cfg.mode 111 = .auto := by kernel_rfl
theorem pairs111_1 : cfg.pairs 111 1 = [] := by kernel_rfl
theorem live111_0 : cfg.live 111 0 = [0, 3, 15, 16, 17] := by kernel_rfl
theorem mode112 : cfg.mode 112 = .auto := by kernel_rfl
theorem pairs112_1 : cfg.pairs 112 1 = [(4, 9), (6, 9), (7, 9), (8, 9)] := by kernel_rfl
theorem pairs112_2 : cfg.pairs 112 2 = [(4, 9), (6, 9), (7, 9), (8, 9)] := by kernel_rfl
theorem pairs112_3 : cfg.pairs 112 3 = [(1, 6), (3, 6), (1, 8), (3, 8), (5, 8), (6, 8)] := by kernel_rfl
theorem pairs112_7 : cfg.pairs 112 7 = [(1, 11)] := by kernel_rfl
theorem pairs112_12 : cfg.pairs 112 12 = [(1, 11)] := by kernel_rfl
theorem pairs112_17 : cfg.pairs 112 17 = [(5, 17), (10, 17), (11, 17), (5, 19)] := by kernel_rfl
theorem pairs112_22 : cfg.pairs 112 22 = [(5, 10), (5, 12)] := by kernel_rfl
theorem pairs112_24 : cfg.pairs 112 24 = [(5, 7)] := by kernel_rfl
theorem pairs112_31 : cfg.pairs 112 31 = [(2, 7), (7, 9)] := by kernel_rfl
theorem pairs112_33 : cfg.pairs 112 33 = [] := by kernel_rfl
theorem live112_0 : cfg.live 112 0 = [0, 3, 4, 5, 6, 43, 44] := by kernel_rfl
theorem live112_2 : cfg.live 112 2 = [0, 3, 4, 5, 6, 64, 65] := by kernel_rfl
theorem live112_4 : cfg.live 112 4 = [0, 3, 4, 5, 6, 84, 85, 86] := by kernel_rfl
theorem live112_6 : cfg.live 112 6 = [0, 3, 4, 5, 6, 117, 118, 119] := by kernel_rfl
theorem live112_8 : cfg.live 112 8 = [0, 3, 4, 6, 175, 176, 177] := by kernel_rfl
theorem alone112_31_10 : cfg.alone 112 31 10 = true := by kernel_rfl
theorem alone112_33_9 : cfg.alone 112 33 9 = true := by kernel_rfl
theorem mode113 : cfg.mode 113 = .auto := by kernel_rfl
theorem pairs113_1 : cfg.pairs 113 1 = [(4, 9), (6, 9), (7, 9), (8, 9)] := by kernel_rfl
theorem pairs113_2 : cfg.pairs 113 2 = [(2, 9), (2, 10), (2, 12), (9, 16), (10, 16), (12, 16), (9, 18), (10, 18), (12, 18)] := by kernel_rfl
theorem alone113_2_19 : cfg.alone 113 2 19 = true := by kernel_rfl
theorem mode114 : cfg.mode 114 = .auto := by kernel_rfl
theorem pairs114_1 : cfg.pairs 114 1 = [(5, 12), (7, 12), (9, 12), (5, 14)] := by kernel_rfl
theorem mode115 : cfg.mode 115 = .auto := by kernel_rfl
theorem pairs115_7 : cfg.pairs 115 7 = [] := by kernel_rfl
theorem live115_0 : cfg.live 115 0 = [1, 3, 4, 5] := by kernel_rfl
theorem mode116 : cfg.mode 116 = .auto := by kernel_rfl
theorem pairs116_6 : cfg.pairs 116 6 = [(12, 17)] := by kernel_rfl
theorem pairs116_11 : cfg.pairs 116 11 = [] := by kernel_rfl
theorem live116_0 : cfg.live 116 0 = [5, 6, 11, 13, 14] := by kernel_rfl
theorem alone116_11_19 : cfg.alone 116 11 19 = true := by kernel_rfl
theorem mode117 : cfg.mode 117 = .auto := by kernel_rfl
theorem mode118 : cfg.mode 118 = .auto := by kernel_rfl
theorem mode119 : cfg.mode 119 = .auto := by kernel_rfl
theorem mode120 : cfg.mode 120 = .auto := by kernel_rfl
theorem mode121 : cfg.mode 121 = .auto := by kernel_rfl
theorem live121_0 : cfg.live 121 0 = [1, 2, 5, 6] := by kernel_rfl
theorem mode122 : cfg.mode 122 = .auto := by kernel_rfl
theorem live122_0 : cfg.live 122 0 = [1, 3, 4] := by kernel_rfl
theorem mode123 : cfg.mode 123 = .auto := by kernel_rfl
theorem mode124 : cfg.mode 124 = .auto := by kernel_rfl
theorem mode125 : cfg.mode 125 = .auto := by kernel_rfl
theorem live125_0 : cfg.live 125 0 = [0, 1, 7, 8] := by kernel_rfl
theorem mode126 : cfg.mode 126 = .auto := by kernel_rfl
theorem live126_0 : cfg.live 126 0 = [0, 1, 7, 8] := by kernel_rfl
theorem mode127 : cfg.mode 127 = .auto := by kernel_rfl
theorem live127_0 : cfg.live 127 0 = [0, 3] := by kernel_rfl
theorem mode128 : cfg.mode 128 = .auto := by kernel_rfl
theorem pairs128_6 : cfg.pairs 128 6 = [] := by kernel_rfl
theorem pairs128_24 : cfg.pairs 128 24 = [] := by kernel_rfl
theorem live128_0 : cfg.live 128 0 = [1, 3] := by kernel_rfl
theorem live128_2 : cfg.live 128 2 = [1, 4] := by kernel_rfl
theorem live128_4 : cfg.live 128 4 = [1, 5, 6] := by kernel_rfl
theorem live128_6 : cfg.live 128 6 = [1, 5, 6, 7, 8] := by kernel_rfl
theorem live128_8 : cfg.live 128 8 = [1, 5, 6, 7, 8, 9, 10] := by kernel_rfl
theorem live128_10 : cfg.live 128 10 = [5, 11] := by kernel_rfl
theorem mode129 : cfg.mode 129 = .auto := by kernel_rfl
theorem pairs129_20 : cfg.pairs 129 20 = [] := by kernel_rfl
theorem pairs129_22 : cfg.pairs 129 22 = [] := by kernel_rfl
theorem pairs129_23 : cfg.pairs 129 23 = [] := by kernel_rfl
theorem pairs129_24 : cfg.pairs 129 24 = [] := by kernel_rfl
theorem live129_0 : cfg.live 129 0 = [0, 2, 6, 10] := by kernel_rfl
theorem live129_3 : cfg.live 129 3 = [0, 6, 11, 12] := by kernel_rfl
theorem alone129_24_11 : cfg.alone 129 24 11 = true := by kernel_rfl
theorem mode130 : cfg.mode 130 = .auto := by kernel_rfl
theorem mode131 : cfg.mode 131 = .auto := by kernel_rfl
theorem pairs131_1 : cfg.pairs 131 1 = [(0, 4), (4, 6), (4, 7), (0, 8), (2, 8), (3, 8), (4, 8)] := by kernel_rfl
theorem mode132 : cfg.mode 132 = .auto := by kernel_rfl
theorem pairs132_5 : cfg.pairs 132 5 = [(0, 2), (0, 3), (0, 5), (2, 5), (3, 5), (4, 5), (0, 7), (4, 7), (5, 7), (0, 8), (4, 8), (5, 8), (0, 11), (2, 11), (3, 11), (4, 11), (5, 11), (7, 11), (8, 11), (9, 11)] := by kernel_rfl
theorem pairs132_9 : cfg.pairs 132 9 = [(1, 2), (2, 4), (1, 5), (1, 6)] := by kernel_rfl
theorem live132_0 : cfg.live 132 0 = [3, 13, 14, 15] := by kernel_rfl
theorem live132_2 : cfg.live 132 2 = [3, 6, 13, 14, 15, 31, 32, 33] := by kernel_rfl
theorem mode133 : cfg.mode 133 = .auto := by kernel_rfl
theorem live133_0 : cfg.live 133 0 = [0, 1, 5, 12, 13] := by kernel_rfl
theorem mode134 : cfg.mode 134 = .auto := by kernel_rfl
theorem pairs134_5 : cfg.pairs 134 5 = [] := by kernel_rfl
theorem pairs134_10 : cfg.pairs 134 10 = [] := by kernel_rfl
theorem live134_0 : cfg.live 134 0 = [0, 1, 7, 12, 13] := by kernel_rfl
theorem live134_2 : cfg.live 134 2 = [0, 1, 7, 8, 12, 13, 49, 50] := by kernel_rfl
theorem alone134_5_11 : cfg.alone 134 5 11 = true := by kernel_rfl
theorem alone134_5_25 : cfg.alone 134 5 25 = true := by kernel_rfl
theorem alone134_10_17 : cfg.alone 134 10 17 = true := by kernel_rfl
theorem mode135 : cfg.mode 135 = .auto := by kernel_rfl
theorem mode136 : cfg.mode 136 = .auto := by kernel_rfl
theorem pairs136_2 : cfg.pairs 136 2 = [(0, 7), (2, 7), (3, 7), (4, 7), (5, 7), (6, 7)] := by kernel_rfl
theorem pairs136_5 : cfg.pairs 136 5 = [(0, 4)] := by kernel_rfl
theorem mode137 : cfg.mode 137 = .auto := by kernel_rfl
theorem pairs137_1 : cfg.pairs 137 1 = [] := by kernel_rfl
theorem mode138 : cfg.mode 138 = .auto := by kernel_rfl
theorem live138_0 : cfg.live 138 0 = [1, 2, 15, 16, 17] := by kernel_rfl
theorem mode139 : cfg.mode 139 = .auto := by kernel_rfl
theorem mode140 : cfg.mode 140 = .auto := by kernel_rfl
theorem live140_0 : cfg.live 140 0 = [1, 23, 24, 25] := by kernel_rfl
theorem live140_2 : cfg.live 140 2 = [1, 6, 23, 24, 25, 60, 61, 62] := by kernel_rfl
theorem mode141 : cfg.mode 141 = .auto := by kernel_rfl
theorem mode142 : cfg.mode 142 = .auto := by kernel_rfl
theorem mode143 : cfg.mode 143 = .auto := by kernel_rfl
theorem pairs143_8 : cfg.pairs 143 8 = [(4, 10)] := by kernel_rfl
theorem pairs143_10 : cfg.pairs 143 10 = [(4, 9), (6, 9), (7, 9), (8, 9)] := by kernel_rfl
theorem pairs143_11 : cfg.pairs 143 11 = [(4, 9), (6, 9), (7, 9), (8, 9)] := by kernel_rfl
theorem pairs143_12 : cfg.pairs 143 12 = [] := by kernel_rfl
theorem pairs143_13 : cfg.pairs 143 13 = [(4, 11), (6, 11), (8, 11), (4, 12), (6, 12)] := by kernel_rfl
theorem live143_0 : cfg.live 143 0 = [0, 2, 3, 5, 8, 9] := by kernel_rfl
theorem mode144 : cfg.mode 144 = .auto := by kernel_rfl
theorem pairs144_1 : cfg.pairs 144 1 = [(4, 9), (6, 9), (7, 9), (8, 9)] := by kernel_rfl
theorem pairs144_2 : cfg.pairs 144 2 = [(1, 4), (1, 6), (4, 6)] := by kernel_rfl
theorem pairs144_6 : cfg.pairs 144 6 = [(1, 11)] := by kernel_rfl
theorem pairs144_10 : cfg.pairs 144 10 = [(1, 11)] := by kernel_rfl
theorem pairs144_14 : cfg.pairs 144 14 = [(5, 24), (10, 24), (11, 24), (5, 26)] := by kernel_rfl
theorem pairs144_18 : cfg.pairs 144 18 = [(5, 17), (5, 19)] := by kernel_rfl
theorem pairs144_19 : cfg.pairs 144 19 = [(5, 7)] := by kernel_rfl
theorem pairs144_24 : cfg.pairs 144 24 = [(2, 14), (4, 14), (6, 14), (14, 16)] := by kernel_rfl
theorem pairs144_25 : cfg.pairs 144 25 = [] := by kernel_rfl
theorem live144_0 : cfg.live 144 0 = [0, 2, 5, 8, 9, 10] := by kernel_rfl
theorem live144_2 : cfg.live 144 2 = [0, 2, 5, 8, 9, 11] := by kernel_rfl
theorem live144_4 : cfg.live 144 4 = [0, 2, 5, 8, 9, 12] := by kernel_rfl
theorem live144_6 : cfg.live 144 6 = [0, 2, 5, 8, 9, 13] := by kernel_rfl
theorem live144_8 : cfg.live 144 8 = [0, 2, 5, 8, 9, 14] := by kernel_rfl
theorem alone144_24_17 : cfg.alone 144 24 17 = true := by kernel_rfl
theorem alone144_25_8 : cfg.alone 144 25 8 = true := by kernel_rfl
theorem mode145 : cfg.mode 145 = .own := by kernel_rfl
theorem mode146 : cfg.mode 146 = .ro := by kernel_rfl
theorem mode147 : cfg.mode 147 = .ro := by kernel_rfl
theorem live147_0 : cfg.live 147 0 = [0, 13, 14, 15] := by kernel_rfl
theorem mode148 : cfg.mode 148 = .own := by kernel_rfl
theorem live148_0 : cfg.live 148 0 = [1, 5, 8, 9, 10] := by kernel_rfl
theorem mode149 : cfg.mode 149 = .auto := by kernel_rfl
theorem mode150 : cfg.mode 150 = .own := by kernel_rfl
theorem live150_0 : cfg.live 150 0 = [1, 5, 8, 9, 10] := by kernel_rfl
theorem mode151 : cfg.mode 151 = .auto := by kernel_rfl
theorem pairs151_1 : cfg.pairs 151 1 = [(1, 6), (3, 6)] := by kernel_rfl
theorem mode152 : cfg.mode 152 = .own := by kernel_rfl
theorem mode153 : cfg.mode 153 = .own := by kernel_rfl
theorem live153_0 : cfg.live 153 0 = [1, 5, 8, 9, 10] := by kernel_rfl
theorem mode154 : cfg.mode 154 = .own := by kernel_rfl
theorem pairs154_1 : cfg.pairs 154 1 = [(1, 8), (3, 8), (5, 8)] := by kernel_rfl
theorem mode155 : cfg.mode 155 = .own := by kernel_rfl
theorem mode156 : cfg.mode 156 = .own := by kernel_rfl
theorem live156_0 : cfg.live 156 0 = [1, 5, 8, 9, 10] := by kernel_rfl
theorem mode157 : cfg.mode 157 = .auto := by kernel_rfl
theorem pairs157_1 : cfg.pairs 157 1 = [(1, 6), (3, 6)] := by kernel_rfl
theorem mode158 : cfg.mode 158 = .auto := by kernel_rfl
theorem pairs158_4 : cfg.pairs 158 4 = [] := by kernel_rfl
theorem live158_0 : cfg.live 158 0 = [0, 1, 3] := by kernel_rfl
theorem live158_2 : cfg.live 158 2 = [0, 1, 3, 4] := by kernel_rfl
theorem mode159 : cfg.mode 159 = .auto := by kernel_rfl
theorem live159_0 : cfg.live 159 0 = [0, 3, 4] := by kernel_rfl
theorem mode160 : cfg.mode 160 = .own := by kernel_rfl
theorem mode161 : cfg.mode 161 = .raw := by kernel_rfl
theorem pairs161_5 : cfg.pairs 161 5 = [] := by kernel_rfl
theorem mode162 : cfg.mode 162 = .raw := by kernel_rfl
theorem live162_0 : cfg.live 162 0 = [0, 1, 5, 6] := by kernel_rfl
theorem mode163 : cfg.mode 163 = .ro := by kernel_rfl
theorem pairs163_1 : cfg.pairs 163 1 = [] := by kernel_rfl
theorem mode164 : cfg.mode 164 = .auto := by kernel_rfl
theorem pairs164_9 : cfg.pairs 164 9 = [] := by kernel_rfl
theorem pairs164_15 : cfg.pairs 164 15 = [] := by kernel_rfl
theorem live164_0 : cfg.live 164 0 = [0, 1, 4] := by kernel_rfl
theorem live164_2 : cfg.live 164 2 = [0, 5, 6] := by kernel_rfl
theorem live164_4 : cfg.live 164 4 = [0, 7] := by kernel_rfl
theorem mode165 : cfg.mode 165 = .auto := by kernel_rfl
theorem mode166 : cfg.mode 166 = .auto := by kernel_rfl
theorem mode167 : cfg.mode 167 = .auto := by kernel_rfl
theorem live167_0 : cfg.live 167 0 = [0, 1, 5] := by kernel_rfl
theorem mode168 : cfg.mode 168 = .auto := by kernel_rfl
theorem mode169 : cfg.mode 169 = .auto := by kernel_rfl
theorem mode170 : cfg.mode 170 = .auto := by kernel_rfl
theorem pairs170_4 : cfg.pairs 170 4 = [(2, 14), (4, 14), (6, 14)] := by kernel_rfl
theorem live170_0 : cfg.live 170 0 = [0, 2, 4, 6] := by kernel_rfl
theorem live170_2 : cfg.live 170 2 = [0, 2, 4, 7] := by kernel_rfl
theorem alone170_4_16 : cfg.alone 170 4 16 = true := by kernel_rfl
theorem mode171 : cfg.mode 171 = .auto := by kernel_rfl
theorem mode172 : cfg.mode 172 = .auto := by kernel_rfl
theorem mode173 : cfg.mode 173 = .auto := by kernel_rfl
theorem pairs173_1 : cfg.pairs 173 1 = [] := by kernel_rfl
theorem pairs173_4 : cfg.pairs 173 4 = [] := by kernel_rfl
theorem pairs173_10 : cfg.pairs 173 10 = [] := by kernel_rfl
theorem pairs173_13 : cfg.pairs 173 13 = [] := by kernel_rfl
theorem live173_0 : cfg.live 173 0 = [1, 3, 5, 6, 7, 11, 40, 82, 83, 84, 85] := by kernel_rfl
theorem live173_2 : cfg.live 173 2 = [1, 3, 5, 6, 7, 11, 59, 60, 82, 83, 84, 85] := by kernel_rfl
theorem mode174 : cfg.mode 174 = .auto := by kernel_rfl
theorem pairs174_9 : cfg.pairs 174 9 = [] := by kernel_rfl
theorem live174_0 : cfg.live 174 0 = [7, 8] := by kernel_rfl
theorem mode175 : cfg.mode 175 = .auto := by kernel_rfl
theorem pairs175_7 : cfg.pairs 175 7 = [(1, 14), (7, 14), (9, 14), (10, 14), (1, 15), (1, 16), (1, 17)] := by kernel_rfl
theorem pairs175_19 : cfg.pairs 175 19 = [(1, 3), (1, 4)] := by kernel_rfl
theorem pairs175_21 : cfg.pairs 175 21 = [(5, 7), (5, 8)] := by kernel_rfl
theorem pairs175_28 : cfg.pairs 175 28 = [(2, 17), (3, 17), (7, 17), (8, 17), (10, 17), (11, 17), (2, 18), (3, 18)] := by kernel_rfl
theorem live175_0 : cfg.live 175 0 = [0, 1, 2, 6, 7, 8, 9, 39, 40, 41] := by kernel_rfl
theorem live175_2 : cfg.live 175 2 = [0, 1, 2, 6, 7, 8, 9, 74, 75, 76] := by kernel_rfl
theorem live175_4 : cfg.live 175 4 = [0, 1, 2, 6, 7, 8, 9, 12, 13, 14, 74, 75, 76, 82, 83, 84] := by kernel_rfl
theorem live175_6 : cfg.live 175 6 = [0, 1, 2, 6, 7, 8, 9, 13, 17, 74, 75, 76, 128, 129, 130] := by kernel_rfl
theorem live175_8 : cfg.live 175 8 = [0, 1, 2, 6, 7, 8, 9, 13, 17, 19, 74, 75, 76, 128, 129, 130, 138, 139] := by kernel_rfl
theorem live175_10 : cfg.live 175 10 = [6, 8, 167, 168, 169] := by kernel_rfl
theorem live175_12 : cfg.live 175 12 = [6, 8, 23, 167, 168, 169, 173, 174, 175] := by kernel_rfl
theorem mode176 : cfg.mode 176 = .auto := by kernel_rfl
theorem pairs176_4 : cfg.pairs 176 4 = [] := by kernel_rfl
theorem live176_0 : cfg.live 176 0 = [0, 1, 2, 3, 10, 11] := by kernel_rfl
theorem alone176_4_10 : cfg.alone 176 4 10 = true := by kernel_rfl
theorem mode177 : cfg.mode 177 = .auto := by kernel_rfl
theorem pairs177_8 : cfg.pairs 177 8 = [(6, 9), (6, 10), (6, 11)] := by kernel_rfl
theorem pairs177_10 : cfg.pairs 177 10 = [(6, 9), (6, 10), (6, 11)] := by kernel_rfl
theorem alone177_8_13 : cfg.alone 177 8 13 = true := by kernel_rfl
theorem alone177_10_13 : cfg.alone 177 10 13 = true := by kernel_rfl
theorem mode178 : cfg.mode 178 = .auto := by kernel_rfl
theorem mode179 : cfg.mode 179 = .auto := by kernel_rfl
theorem mode180 : cfg.mode 180 = .ro := by kernel_rfl
theorem mode181 : cfg.mode 181 = .own := by kernel_rfl
theorem live181_0 : cfg.live 181 0 = [1, 5, 8, 9, 10] := by kernel_rfl
theorem mode182 : cfg.mode 182 = .auto := by kernel_rfl
theorem mode183 : cfg.mode 183 = .own := by kernel_rfl
theorem live183_0 : cfg.live 183 0 = [1, 5, 8, 9, 10] := by kernel_rfl
theorem mode184 : cfg.mode 184 = .auto := by kernel_rfl
theorem mode185 : cfg.mode 185 = .ro := by kernel_rfl
theorem live185_0 : cfg.live 185 0 = [0, 1, 7, 8] := by kernel_rfl
theorem mode186 : cfg.mode 186 = .auto := by kernel_rfl
theorem mode187 : cfg.mode 187 = .auto := by kernel_rfl
theorem live187_0 : cfg.live 187 0 = [0, 2, 5, 9, 10] := by kernel_rfl
theorem mode188 : cfg.mode 188 = .auto := by kernel_rfl
theorem pairs188_5 : cfg.pairs 188 5 = [] := by kernel_rfl
theorem live188_0 : cfg.live 188 0 = [2, 3, 5, 6] := by kernel_rfl
theorem mode189 : cfg.mode 189 = .auto := by kernel_rfl
theorem mode190 : cfg.mode 190 = .own := by kernel_rfl
theorem pairs190_7 : cfg.pairs 190 7 = [(0, 4), (4, 6), (4, 7), (0, 8), (2, 8), (3, 8), (4, 8), (4, 10), (8, 10), (4, 11), (8, 11), (0, 12), (2, 12), (3, 12), (4, 12), (6, 12), (7, 12), (8, 12)] := by kernel_rfl
theorem live190_0 : cfg.live 190 0 = [1, 24, 25, 26] := by kernel_rfl
theorem mode191 : cfg.mode 191 = .auto := by kernel_rfl
theorem mode192 : cfg.mode 192 = .auto := by kernel_rfl
theorem mode193 : cfg.mode 193 = .auto := by kernel_rfl
theorem pairs193_2 : cfg.pairs 193 2 = [(0, 8), (1, 8), (3, 8), (4, 8), (5, 8), (6, 8), (7, 8)] := by kernel_rfl
theorem pairs193_5 : cfg.pairs 193 5 = [(0, 5)] := by kernel_rfl
theorem pairs193_6 : cfg.pairs 193 6 = [] := by kernel_rfl
theorem pairs193_9 : cfg.pairs 193 9 = [(0, 10), (10, 11), (10, 12), (10, 14), (10, 15), (0, 16), (0, 17)] := by kernel_rfl
theorem live193_2 : cfg.live 193 2 = [4, 5, 7, 9, 10, 51, 52, 53] := by kernel_rfl
theorem alone193_5_6 : cfg.alone 193 5 6 = true := by kernel_rfl
theorem alone193_9_18 : cfg.alone 193 9 18 = true := by kernel_rfl
theorem mode194 : cfg.mode 194 = .auto := by kernel_rfl
theorem mode195 : cfg.mode 195 = .auto := by kernel_rfl
theorem mode196 : cfg.mode 196 = .auto := by kernel_rfl
theorem mode197 : cfg.mode 197 = .auto := by kernel_rfl
theorem pairs197_1 : cfg.pairs 197 1 = [] := by kernel_rfl
theorem mode198 : cfg.mode 198 = .auto := by kernel_rfl
theorem pairs198_0 : cfg.pairs 198 0 = [] := by kernel_rfl
theorem live198_0 : cfg.live 198 0 = [0, 14, 15, 16] := by kernel_rfl
theorem mode199 : cfg.mode 199 = .auto := by kernel_rfl
theorem mode200 : cfg.mode 200 = .auto := by kernel_rfl
theorem live200_0 : cfg.live 200 0 = [0, 5, 6] := by kernel_rfl
theorem mode201 : cfg.mode 201 = .auto := by kernel_rfl
theorem pairs201_1 : cfg.pairs 201 1 = [] := by kernel_rfl
theorem pairs201_4 : cfg.pairs 201 4 = [(4, 7), (5, 7)] := by kernel_rfl
theorem pairs201_14 : cfg.pairs 201 14 = [] := by kernel_rfl
theorem pairs201_25 : cfg.pairs 201 25 = [] := by kernel_rfl
theorem pairs201_26 : cfg.pairs 201 26 = [(4, 9), (6, 9), (7, 9), (8, 9)] := by kernel_rfl
theorem pairs201_32 : cfg.pairs 201 32 = [(2, 6)] := by kernel_rfl
theorem live201_1 : cfg.live 201 1 = [0, 2, 6, 154, 155, 156] := by kernel_rfl
theorem live201_3 : cfg.live 201 3 = [0, 2, 6, 11, 190, 191, 192] := by kernel_rfl
theorem live201_5 : cfg.live 201 5 = [0, 2, 6, 207, 208, 209] := by kernel_rfl
theorem live201_7 : cfg.live 201 7 = [0, 2, 220, 221, 222] := by kernel_rfl
theorem alone201_4_10 : cfg.alone 201 4 10 = true := by kernel_rfl
theorem alone201_14_25 : cfg.alone 201 14 25 = true := by kernel_rfl
theorem alone201_32_8 : cfg.alone 201 32 8 = true := by kernel_rfl
theorem mode202 : cfg.mode 202 = .auto := by kernel_rfl
theorem mode203 : cfg.mode 203 = .auto := by kernel_rfl
theorem pairs203_1 : cfg.pairs 203 1 = [(0, 8), (4, 8), (5, 8), (6, 8), (7, 8)] := by kernel_rfl
theorem pairs203_11 : cfg.pairs 203 11 = [] := by kernel_rfl
theorem live203_0 : cfg.live 203 0 = [1, 3, 4, 7, 19, 20, 21, 37, 38, 39, 40, 41] := by kernel_rfl
theorem live203_4 : cfg.live 203 4 = [3, 51, 52, 53] := by kernel_rfl
theorem mode204 : cfg.mode 204 = .auto := by kernel_rfl
theorem mode205 : cfg.mode 205 = .auto := by kernel_rfl
theorem mode206 : cfg.mode 206 = .auto := by kernel_rfl
theorem mode207 : cfg.mode 207 = .auto := by kernel_rfl
theorem mode208 : cfg.mode 208 = .auto := by kernel_rfl
theorem pairs208_2 : cfg.pairs 208 2 = [(3, 13), (5, 13), (6, 13), (8, 13), (9, 13)] := by kernel_rfl
theorem pairs208_14 : cfg.pairs 208 14 = [] := by kernel_rfl
theorem live208_0 : cfg.live 208 0 = [1, 3, 10, 11, 12, 49, 50, 51] := by kernel_rfl
theorem alone208_14_15 : cfg.alone 208 14 15 = true := by kernel_rfl
theorem mode209 : cfg.mode 209 = .auto := by kernel_rfl
theorem pairs209_2 : cfg.pairs 209 2 = [(7, 11), (7, 12)] := by kernel_rfl
theorem alone209_2_15 : cfg.alone 209 2 15 = true := by kernel_rfl
theorem mode210 : cfg.mode 210 = .own := by kernel_rfl
theorem mode211 : cfg.mode 211 = .auto := by kernel_rfl
theorem mode212 : cfg.mode 212 = .auto := by kernel_rfl
theorem mode213 : cfg.mode 213 = .auto := by kernel_rfl
theorem pairs213_23 : cfg.pairs 213 23 = [] := by kernel_rfl
theorem live213_0 : cfg.live 213 0 = [1, 2, 31, 32, 33] := by kernel_rfl
theorem live213_2 : cfg.live 213 2 = [1, 2, 52, 53, 54] := by kernel_rfl
theorem live213_4 : cfg.live 213 4 = [1, 2, 7, 72, 73, 74] := by kernel_rfl
theorem live213_6 : cfg.live 213 6 = [1, 2, 7, 9, 72, 73, 74, 94, 95, 96] := by kernel_rfl
theorem alone213_23_26 : cfg.alone 213 23 26 = true := by kernel_rfl
theorem alone213_23_29 : cfg.alone 213 23 29 = true := by kernel_rfl
theorem mode214 : cfg.mode 214 = .auto := by kernel_rfl
theorem mode215 : cfg.mode 215 = .auto := by kernel_rfl
theorem live215_0 : cfg.live 215 0 = [2, 5, 9, 10, 11] := by kernel_rfl
theorem mode216 : cfg.mode 216 = .auto := by kernel_rfl
theorem live216_0 : cfg.live 216 0 = [0, 1, 7, 8] := by kernel_rfl
theorem mode217 : cfg.mode 217 = .auto := by kernel_rfl
theorem live217_1 : cfg.live 217 1 = [1, 4, 73, 74, 75] := by kernel_rfl
theorem mode218 : cfg.mode 218 = .auto := by kernel_rfl
theorem mode219 : cfg.mode 219 = .auto := by kernel_rfl
theorem mode220 : cfg.mode 220 = .auto := by kernel_rfl
theorem live220_0 : cfg.live 220 0 = [0, 1, 7, 8] := by kernel_rfl
theorem mode236 : cfg.mode 236 = .auto := by kernel_rfl
theorem mode237 : cfg.mode 237 = .auto := by kernel_rfl
theorem mode238 : cfg.mode 238 = .auto := by kernel_rfl
theorem mode239 : cfg.mode 239 = .auto := by kernel_rfl
theorem mode240 : cfg.mode 240 = .auto := by kernel_rfl
theorem caught50 : cfg.caught 50 = some 177 := Eq.trans (b := cfg.caught 50) rfl (by kernel_rfl)
theorem caught189 : cfg.caught 189 = some 289 := Eq.trans (b := cfg.caught 189) rfl (by kernel_rfl)
attribute [go_sem] T0 T1 T2 T3 T4 T5 T6 T7 T8 T9 T10 T11 T12 T13 T14 T15 T16 T17 T18 T19 T20 T21 T22 T23 T24 T25 T26 T27 T28 T29 T30 T31 T32 T33 T34 T35 T36 T37 T38 T39 T40 T41 T42 T43 T44 T45 T46 T47 T48 T49 T50 T51 T52 T53 T54 T55 T56 T57 T58 T59 T60 T61 T62 T63 T64 T65 T66 T67 T68 T69 T70 T71 T72 T73 T74 T75 T76 T77 T78 T79 T80 T81 T82 T83 T84 T85 T86 T87 T88 T89 T90 T91 T92 T93 T94 T95 T96 T97 T98 T99 T100 T101 T102 T103 T104 T105 T106 T107 T108 T109 T110 T111 T112 T113 T114 T115 T116 T117 T118 T119 T120 T121 T122 T123 T124 T125 T126 T127 T128 T129 T130 T131 T132 T133 T134 T135 T136 T137 T138 T139 T140 T141 T142 T143 T144 T145 T146 T147 T148 T149 T150 T151 T152 T153 T154 T155 T156 T157 T158 T159 T160 T161 T162 T163 T164 T165 T166 T167 T168 T169 T170 T171 T172 T173 T174 T175 T176 T177 T178 T179 T180 T181 T182 T183 T184 T185 T186 T187 T188 T189 T190 T191 T192 T193 T194 T195 T196 T197 T198 T199 T200 T201 T202 T203 T204 T205 T206 T207 T208 T209 T210 T211 T212 T213 T214 T215 T216 T217 T218 T219 T220 T221 T222 T223 T224 T225 T226 T227 T228 T229 T230 T231 T232 T233 T234 T235 T236 T237 T238 T239 T240 T241 T242 T243 T244 T245 T246 T247 T248 T249 T250 T251 T252 T253 T254 T255 T256 T257 T258 T259 T260 T261 T262 T263 T264 T265 T266 T267 T268 T269 T270 T271 T272 T273 T274 T275 T276 T277 T278 T279 T280 T281 T282 T283 T284 T285 T286 T287 T288 T289 T290 T291 T292 T293 T294 T295 T296 T297 T298 T299 T300 T301 T302 T303 T304 T305 T306 T307 T308 T309 T310 T311 T312 T313 T314 T315 T316 T317 T318 T319 T320 T321 T322 T323 T324 T325 T326 T327 T328 T329 mode3 mode4 mode5 mode6 pairs6_4 mode7 pairs7_13 pairs7_15 pairs7_23 live7_0 live7_2 live7_4 alone7_15_7 mode8 pairs8_9 pairs8_25 live8_0 live8_2 alone8_25_43 mode9 pairs9_1 alone9_1_5 alone9_1_8 mode10 mode11 pairs11_14 live11_0 live11_2 alone11_14_5 mode12 mode13 pairs13_15 pairs13_16 live13_0 live13_2 alone13_15_5 alone13_16_17 mode14 pairs14_16 pairs14_17 pairs14_24 live14_0 live14_2 live14_4 alone14_16_5 alone14_17_17 mode15 mode16 mode17 mode18 mode19 mode20 mode21 pairs21_7 pairs21_8 mode22 pairs22_7 live22_0 alone22_7_5 mode23 pairs23_6 pairs23_11 pairs23_16 pairs23_21 live23_0 live23_2 live23_4 live23_6 alone23_11_41 alone23_16_56 alone23_21_41 mode24 pairs24_6 live24_0 alone24_6_61 mode25 pairs25_11 live25_0 mode26 mode27 live27_0 mode28 live28_0 mode29 pairs29_6 live29_0 mode30 mode31 pairs31_11 live31_0 mode32 pairs32_6 pairs32_15 live32_0 live32_2 alone32_15_41 alone32_15_60 mode33 pairs33_4 live33_0 alone33_4_5 mode34 pairs34_5 pairs34_11 live34_0 live34_2 live34_4 alone34_5_7 mode35 pairs35_6 pairs35_11 pairs35_16 live35_0 live35_2 live35_4 alone35_11_41 mode36 pairs36_1 pairs36_3 pairs36_7 live36_0 mode37 pairs37_6 live37_0 alone37_6_10 mode38 live38_0 mode39 mode40 mode41 live41_0 mode42 pairs42_6 live42_0 mode43 mode44 mode45 mode46 live46_0 mode47 pairs47_1 pairs47_4 pairs47_6 pairs47_9 live47_0 live47_2 mode48 pairs48_1 pairs48_6 pairs48_7 pairs48_12 pairs48_16 pairs48_17 live48_0 live48_2 mode49 pairs49_4 pairs49_5 live49_0 live49_2 live49_4 mode50 mode51 mode52 pairs52_9 pairs52_12 pairs52_17 live52_0 live52_2 live52_4 live52_6 mode53 pairs53_2 mode54 mode55 pairs55_4 pairs55_5 pairs55_6 pairs55_11 pairs55_12 pairs55_14 pairs55_15 alone55_12_10 alone55_14_10 alone55_15_9 mode56 pairs56_1 mode57 pairs57_6 live57_0 mode58 mode59 mode60 pairs60_8 pairs60_11 live60_0 mode61 live61_0 live61_2 mode62 mode63 live63_0 mode64 live64_0 live64_2 mode65 pairs65_3 pairs65_8 live65_0 mode66 pairs66_2 mode67 pairs67_7 pairs67_19 live67_0 live67_2 live67_4 alone67_7_40 mode68 mode69 mode70 pairs70_4 live70_0 alone70_4_6 mode71 mode72 pairs72_4 pairs72_11 live72_0 mode73 live73_0 mode74 mode75 pairs75_6 alone75_6_12 alone75_6_13 mode76 mode77 mode78 pairs78_6 alone78_6_12 alone78_6_13 mode79 mode80 mode81 mode82 mode83 pairs83_8 pairs83_13 live83_0 live83_2 live83_4 live83_6 mode84 alone84_14_15 mode85 mode86 pairs86_14 live86_0 live86_2 alone86_14_15 mode87 pairs87_19 mode88 pairs88_3 mode89 mode90 mode91 pairs91_5 pairs91_11 pairs91_13 pairs91_14 pairs91_30 pairs91_31 pairs91_38 pairs91_45 pairs91_46 pairs91_51 live91_0 live91_2 live91_4 live91_6 live91_8 live91_10 live91_12 alone91_5_15 alone91_11_14 alone91_13_11 alone91_30_20 alone91_31_23 alone91_45_27 alone91_51_11 mode92 pairs92_1 alone92_1_11 mode93 pairs93_1 pairs93_8 pairs93_9 alone93_9_26 mode94 mode95 pairs95_1 mode96 mode97 mode98 mode99 pairs99_6 live99_0 mode100 pairs100_1 pairs100_2 pairs100_7 pairs100_8 pairs100_9 pairs100_13 live100_0 alone100_13_9 mode101 pairs101_5 mode102 pairs102_8 pairs102_12 live102_0 live102_2 mode103 pairs103_0 mode104 pairs104_5 pairs104_9 pairs104_13 pairs104_18 live104_0 live104_2 live104_4 live104_6 mode105 pairs105_1 pairs105_2 pairs105_6 pairs105_7 pairs105_8 pairs105_10 pairs105_13 pairs105_14 alone105_8_9 alone105_14_9 mode106 pairs106_1 pairs106_2 pairs106_9 pairs106_12 pairs106_13 pairs106_14 pairs106_15 live106_0 alone106_13_7 alone106_15_9 mode107 mode108 mode109 mode110 pairs110_1 pairs110_13 pairs110_14 live110_0 mode111 pairs111_1 live111_0 mode112 pairs112_1 pairs112_2 pairs112_3 pairs112_7 pairs112_12 pairs112_17 pairs112_22 pairs112_24 pairs112_31 pairs112_33 live112_0 live112_2 live112_4 live112_6 live112_8 alone112_31_10 alone112_33_9 mode113 pairs113_1 pairs113_2 alone113_2_19 mode114 pairs114_1 mode115 pairs115_7 live115_0 mode116 pairs116_6 pairs116_11 live116_0 alone116_11_19 mode117 mode118 mode119 mode120 mode121 live121_0 mode122 live122_0 mode123 mode124 mode125 live125_0 mode126 live126_0 mode127 live127_0 mode128 pairs128_6 pairs128_24 live128_0 live128_2 live128_4 live128_6 live128_8 live128_10 mode129 pairs129_20 pairs129_22 pairs129_23 pairs129_24 live129_0 live129_3 alone129_24_11 mode130 mode131 pairs131_1 mode132 pairs132_5 pairs132_9 live132_0 live132_2 mode133 live133_0 mode134 pairs134_5 pairs134_10 live134_0 live134_2 alone134_5_11 alone134_5_25 alone134_10_17 mode135 mode136 pairs136_2 pairs136_5 mode137 pairs137_1 mode138 live138_0 mode139 mode140 live140_0 live140_2 mode141 mode142 mode143 pairs143_8 pairs143_10 pairs143_11 pairs143_12 pairs143_13 live143_0 mode144 pairs144_1 pairs144_2 pairs144_6 pairs144_10 pairs144_14 pairs144_18 pairs144_19 pairs144_24 pairs144_25 live144_0 live144_2 live144_4 live144_6 live144_8 alone144_24_17 alone144_25_8 mode145 mode146 mode147 live147_0 mode148 live148_0 mode149 mode150 live150_0 mode151 pairs151_1 mode152 mode153 live153_0 mode154 pairs154_1 mode155 mode156 live156_0 mode157 pairs157_1 mode158 pairs158_4 live158_0 live158_2 mode159 live159_0 mode160 mode161 pairs161_5 mode162 live162_0 mode163 pairs163_1 mode164 pairs164_9 pairs164_15 live164_0 live164_2 live164_4 mode165 mode166 mode167 live167_0 mode168 mode169 mode170 pairs170_4 live170_0 live170_2 alone170_4_16 mode171 mode172 mode173 pairs173_1 pairs173_4 pairs173_10 pairs173_13 live173_0 live173_2 mode174 pairs174_9 live174_0 mode175 pairs175_7 pairs175_19 pairs175_21 pairs175_28 live175_0 live175_2 live175_4 live175_6 live175_8 live175_10 live175_12 mode176 pairs176_4 live176_0 alone176_4_10 mode177 pairs177_8 pairs177_10 alone177_8_13 alone177_10_13 mode178 mode179 mode180 mode181 live181_0 mode182 mode183 live183_0 mode184 mode185 live185_0 mode186 mode187 live187_0 mode188 pairs188_5 live188_0 mode189 mode190 pairs190_7 live190_0 mode191 mode192 mode193 pairs193_2 pairs193_5 pairs193_6 pairs193_9 live193_2 alone193_5_6 alone193_9_18 mode194 mode195 mode196 mode197 pairs197_1 mode198 pairs198_0 live198_0 mode199 mode200 live200_0 mode201 pairs201_1 pairs201_4 pairs201_14 pairs201_25 pairs201_26 pairs201_32 live201_1 live201_3 live201_5 live201_7 alone201_4_10 alone201_14_25 alone201_32_8 mode202 mode203 pairs203_1 pairs203_11 live203_0 live203_4 mode204 mode205 mode206 mode207 mode208 pairs208_2 pairs208_14 live208_0 alone208_14_15 mode209 pairs209_2 alone209_2_15 mode210 mode211 mode212 mode213 pairs213_23 live213_0 live213_2 live213_4 live213_6 alone213_23_26 alone213_23_29 mode214 mode215 live215_0 mode216 live216_0 mode217 live217_1 mode218 mode219 mode220 live220_0 mode236 mode237 mode238 mode239 mode240 caught50 caught189
end Go.Proofs
end
section
namespace Go.Proofs
open Go Go.Abs
inductive Exp where
  | mk (op n : Int) (kids : List Exp)
def Exp.op : Exp → Int | .mk o _ _ => o
def Exp.n : Exp → Int | .mk _ n _ => n
def Exp.kids : Exp → List Exp | .mk _ _ k => k
structure Val where
  kind : Int
  n : Int
  deriving DecidableEq
structure Node where
  op : Int
  n : Int
  args : List Exp
  kids : List Int
structure Chan where
  at_ : Int
  many : Int
structure DSpot where
  in_ : Int
  node : Int
structure Rule where
  at_ : Int
  joins : List Int
  node : Int
structure Def where
  chans : List Chan
  spots : List DSpot
  rules : List Rule
structure Prog where
  free : List ByteArray
  nodes : List Node
  defs : List Def
  main : Int
structure Spot where
  in_ : Int
  dead : Bool
  deriving DecidableEq
structure Group where
  def_ : Int
  at_ : Int
  env : List Val
structure Chn where
  group : Int
  index : Int
  at_ : Int
  queue : List (List Val)
structure Wait where
  at_ : Int
  node : Int
  env : List Val
structure Sol where
  spots : List Spot
  groups : List Group
  chans : List Chn
  waits : List Wait
structure Step where
  wait : Int
  group : Int
  rule : Int
  picks : List Int
structure Event where
  deed : Int
  at_ : Int
  n : Int
  m : Int
  vals : List Val
mutual
def encExp : Exp → List Dat
  | .mk op n kids => [.int .i64 op, .int .i64 n, .lst (encExps kids)]
def encExps : List Exp → List (List Dat)
  | [] => []
  | x :: l => encExp x :: encExps l
end
theorem encExps_eq : ∀ l, encExps l = l.map encExp
  | [] => rfl
  | x :: l => by simp [encExps, encExps_eq l]
theorem encExp_eq (x : Exp) : encExp x = [.int .i64 x.op, .int .i64 x.n, .lst (x.kids.map encExp)] := by
  cases x
  simp [encExp, encExps_eq, Exp.op, Exp.n, Exp.kids]
theorem Exp.ind {p : Exp → Prop} (h : ∀ op n kids, (∀ k ∈ kids, p k) → p (.mk op n kids)) : ∀ x, p x := by
  intro x
  refine Exp.rec (motive_1 := p) (motive_2 := fun l => ∀ k ∈ l, p k) (fun op n kids ih => h op n kids ih) (by simp) (fun a l h1 h2 k hk => ?_) x
  rcases List.mem_cons.1 hk with rfl | hk
  · exact h1
  · exact h2 k hk
theorem Exp.eta (x : Exp) : Exp.mk x.op x.n x.kids = x := by cases x; rfl
theorem Exp.op_mk (o n : Int) (k : List Exp) : (Exp.mk o n k).op = o := rfl
theorem Exp.n_mk (o n : Int) (k : List Exp) : (Exp.mk o n k).n = n := rfl
theorem Exp.kids_mk (o n : Int) (k : List Exp) : (Exp.mk o n k).kids = k := rfl
def encInt (n : Int) : List Dat := [.int .i64 n]
def encStr (s : ByteArray) : List Dat := [.str s]
def encVal (v : Val) : List Dat := [.int .i64 v.kind, .int .i64 v.n]
def encNode (x : Node) : List Dat := [.int .i64 x.op, .int .i64 x.n, .lst (x.args.map encExp), .lst (x.kids.map encInt)]
def encChan (c : Chan) : List Dat := [.int .i64 c.at_, .int .i64 c.many]
def encDSpot (s : DSpot) : List Dat := [.int .i64 s.in_, .int .i64 s.node]
def encRule (r : Rule) : List Dat := [.int .i64 r.at_, .lst (r.joins.map encInt), .int .i64 r.node]
def encDef (d : Def) : List Dat := [.lst (d.chans.map encChan), .lst (d.spots.map encDSpot), .lst (d.rules.map encRule)]
def encSpot (s : Spot) : List Dat := [.int .i64 s.in_, .bool s.dead]
def encGroup (g : Group) : List Dat := [.int .i64 g.def_, .int .i64 g.at_, .lst (g.env.map encVal)]
def encMsg (m : List Val) : List Dat := [.lst (m.map encVal)]
def encChn (c : Chn) : List Dat := [.int .i64 c.group, .int .i64 c.index, .int .i64 c.at_, .lst (c.queue.map encMsg)]
def encWait (w : Wait) : List Dat := [.int .i64 w.at_, .int .i64 w.node, .lst (w.env.map encVal)]
def encEvent (x : Event) : List Dat := [.int .i64 x.deed, .int .i64 x.at_, .int .i64 x.n, .int .i64 x.m, .lst (x.vals.map encVal)]
def encStep (x : Step) : List Dat := [.int .i64 x.wait, .int .i64 x.group, .int .i64 x.rule, .lst (x.picks.map encInt)]
def encProg (p : Prog) : List Dat := [.lst (p.free.map encStr), .lst (p.nodes.map encNode), .lst (p.defs.map encDef), .int .i64 p.main]
def encSol (s : Sol) : List Dat := [.lst (s.spots.map encSpot), .lst (s.groups.map encGroup), .lst (s.chans.map encChn), .lst (s.waits.map encWait)]
theorem encInt_eq (n : Int) : encInt n = [.int .i64 n] := rfl
theorem Val.eta (v : Val) : Val.mk v.kind v.n = v := rfl
attribute [go_sem] encExp_eq encInt encStr encVal encNode encChan encDSpot encRule encDef encSpot encGroup encMsg encChn encWait encEvent encStep Exp.op_mk Exp.n_mk Exp.kids_mk
def i64 (n : Int) : Prop := -9223372036854775808 ≤ n ∧ n < 9223372036854775808
theorem wrap_id {n : Int} (h1 : -9223372036854775808 ≤ n) (h2 : n < 9223372036854775808) : IntKind.i64.wrap n = n := by
  have hb : IntKind.i64.bits = 64 := rfl
  have hs : IntKind.i64.signed = true := rfl
  simp only [IntKind.wrap, hb, hs, Bool.true_and, decide_eq_true_eq]
  have e1 : (2 ^ 64 : Int) = 18446744073709551616 := by decide
  have e2 : (2 ^ (64 - 1) : Int) = 9223372036854775808 := by decide
  rw [e1, e2]
  split <;> omega
end Go.Proofs
end
section
namespace Go.Proofs
open Go Go.Abs
set_option maxRecDepth 100000
set_option maxHeartbeats 2000000
set_option linter.unusedSimpArgs false
set_option linter.unusedVariables false
def Exp.formed (size : Int) : Exp → Bool
  | .mk op n kids =>
    if op = 1 then decide (kids.length = 0) && (decide (-1000000000 ≤ n) && decide (n ≤ 1000000000))
    else if op = 2 then decide (kids.length = 0) && (decide (0 ≤ n) && decide (n < size))
    else if op < 3 then false
    else if 7 < op then false
    else if n = 0 then match kids with
      | [a, b] => a.formed size && b.formed size
      | _ => false
    else false
theorem two_kids {α : Type} {kids : List α} (hk : kids.length = 2) : ∃ a b, kids = [a, b] := by
  rcases kids with _ | ⟨a, _ | ⟨b, _ | ⟨c, l⟩⟩⟩ <;> simp at hk
  exact ⟨a, b, rfl⟩
@[go_sem] theorem formed_kl (size : Int) (x : Exp) : askN (KL Tryz.prog cfg) 123 [.agg [.d (.int .i64 x.op), .d (.int .i64 x.n), .d (.lst (x.kids.map encExp))], .d (.int .i64 size)] [] = .ok (.ret (.d (.bool (x.formed size))), []) := by
  induction x using Exp.ind with
  | h op n kids ih =>
  simp only [Exp.op_mk, Exp.n_mk, Exp.kids_mk]
  (refine KN_wp rfl Tryz.func123 rfl rfl rfl ?_; show Wp _ _ _ _ (Tryz.f123.body.get rfl) _ _; simp only [Tryz.f123, Option.get_some])
  rcases kids with _ | ⟨a, _ | ⟨b, _ | ⟨c, l⟩⟩⟩
  · clear ih
    repeat' (first | simp only [go_sem, ↓reduceIte, Nat.reduceEqDiff, Nat.reduceAdd, Nat.reduceSub, Nat.reduceBEq, Nat.reduceLeDiff, Nat.reduceLT, reduceCtorEq, Int.reduceEq, Int.reduceLT, Int.reduceLE, Int.reduceNeg, Int.reduceToNat, Int.cast_ofNat_Int, *] | (with_reducible refine condP_dec ?_ ?_ <;> intro hc) | (with_reducible refine guardP_dec ?_ ?_ <;> intro hc) | (with_reducible refine condP_split ?_ ?_ <;> intro hc) | (with_reducible refine guardP_split ?_ ?_ <;> intro hc) | (with_reducible refine plainP_at (by omega) (fun x hx => ?_) <;> have hm := List.mem_of_getElem? hx) | (with_reducible refine pureP_wantD ?_ ?_ <;> intro hc) | (with_reducible refine pureP_want ?_ ?_ <;> intro hc) | (with_reducible refine guardX_dec ?_ ?_ <;> intro hc) | (with_reducible refine guardX_split ?_ ?_ <;> intro hc) | (with_reducible refine plainF_at (by omega) (fun x hx => ?_) <;> have hm := List.mem_of_getElem? hx) | simp (disch := first | assumption | omega) only [wrap_id])
    all_goals grind [Exp.formed]
  · clear ih
    repeat' (first | simp only [go_sem, ↓reduceIte, Nat.reduceEqDiff, Nat.reduceAdd, Nat.reduceSub, Nat.reduceBEq, Nat.reduceLeDiff, Nat.reduceLT, reduceCtorEq, Int.reduceEq, Int.reduceLT, Int.reduceLE, Int.reduceNeg, Int.reduceToNat, Int.cast_ofNat_Int, *] | (with_reducible refine condP_dec ?_ ?_ <;> intro hc) | (with_reducible refine guardP_dec ?_ ?_ <;> intro hc) | (with_reducible refine condP_split ?_ ?_ <;> intro hc) | (with_reducible refine guardP_split ?_ ?_ <;> intro hc) | (with_reducible refine plainP_at (by omega) (fun x hx => ?_) <;> have hm := List.mem_of_getElem? hx) | (with_reducible refine pureP_wantD ?_ ?_ <;> intro hc) | (with_reducible refine pureP_want ?_ ?_ <;> intro hc) | (with_reducible refine guardX_dec ?_ ?_ <;> intro hc) | (with_reducible refine guardX_split ?_ ?_ <;> intro hc) | (with_reducible refine plainF_at (by omega) (fun x hx => ?_) <;> have hm := List.mem_of_getElem? hx) | simp (disch := first | assumption | omega) only [wrap_id])
    all_goals grind [Exp.formed]
  · have ha := ih a (by simp)
    have hb := ih b (by simp)
    clear ih
    repeat' (first | simp only [go_sem, ↓reduceIte, Nat.reduceEqDiff, Nat.reduceAdd, Nat.reduceSub, Nat.reduceBEq, Nat.reduceLeDiff, Nat.reduceLT, reduceCtorEq, Int.reduceEq, Int.reduceLT, Int.reduceLE, Int.reduceNeg, Int.reduceToNat, Int.cast_ofNat_Int, *] | (with_reducible refine condP_dec ?_ ?_ <;> intro hc) | (with_reducible refine guardP_dec ?_ ?_ <;> intro hc) | (with_reducible refine condP_split ?_ ?_ <;> intro hc) | (with_reducible refine guardP_split ?_ ?_ <;> intro hc) | (with_reducible refine plainP_at (by omega) (fun x hx => ?_) <;> have hm := List.mem_of_getElem? hx) | (with_reducible refine pureP_wantD ?_ ?_ <;> intro hc) | (with_reducible refine pureP_want ?_ ?_ <;> intro hc) | (with_reducible refine guardX_dec ?_ ?_ <;> intro hc) | (with_reducible refine guardX_split ?_ ?_ <;> intro hc) | (with_reducible refine plainF_at (by omega) (fun x hx => ?_) <;> have hm := List.mem_of_getElem? hx) | simp (disch := first | assumption | omega) only [wrap_id])
    all_goals grind [Exp.formed]
  · clear ih
    repeat' (first | simp only [go_sem, ↓reduceIte, Nat.reduceEqDiff, Nat.reduceAdd, Nat.reduceSub, Nat.reduceBEq, Nat.reduceLeDiff, Nat.reduceLT, reduceCtorEq, Int.reduceEq, Int.reduceLT, Int.reduceLE, Int.reduceNeg, Int.reduceToNat, Int.cast_ofNat_Int, *] | (with_reducible refine condP_dec ?_ ?_ <;> intro hc) | (with_reducible refine guardP_dec ?_ ?_ <;> intro hc) | (with_reducible refine condP_split ?_ ?_ <;> intro hc) | (with_reducible refine guardP_split ?_ ?_ <;> intro hc) | (with_reducible refine plainP_at (by omega) (fun x hx => ?_) <;> have hm := List.mem_of_getElem? hx) | (with_reducible refine pureP_wantD ?_ ?_ <;> intro hc) | (with_reducible refine pureP_want ?_ ?_ <;> intro hc) | (with_reducible refine guardX_dec ?_ ?_ <;> intro hc) | (with_reducible refine guardX_split ?_ ?_ <;> intro hc) | (with_reducible refine plainF_at (by omega) (fun x hx => ?_) <;> have hm := List.mem_of_getElem? hx) | simp (disch := first | assumption | omega) only [wrap_id])
    all_goals grind [Exp.formed]
@[go_sem] theorem number_kl (k n : Int) : askN (KL Tryz.prog cfg) 119 [.agg [.d (.int .i64 k), .d (.int .i64 n)]] [] = .ok (.ret (.d (.int .i64 (if k = 1 then n else 0))), []) := by
  (refine KN_wp rfl Tryz.func119 rfl rfl rfl ?_; show Wp _ _ _ _ (Tryz.f119.body.get rfl) _ _; simp only [Tryz.f119, Option.get_some])
  repeat' (first | simp only [go_sem, ↓reduceIte, Nat.reduceEqDiff, Nat.reduceAdd, Nat.reduceSub, Nat.reduceBEq, Nat.reduceLeDiff, Nat.reduceLT, reduceCtorEq, Int.reduceEq, Int.reduceLT, Int.reduceLE, Int.reduceNeg, Int.reduceToNat, Int.cast_ofNat_Int, *] | (with_reducible refine condP_dec ?_ ?_ <;> intro hc) | (with_reducible refine guardP_dec ?_ ?_ <;> intro hc) | (with_reducible refine condP_split ?_ ?_ <;> intro hc) | (with_reducible refine guardP_split ?_ ?_ <;> intro hc) | (with_reducible refine plainP_at (by omega) (fun x hx => ?_) <;> have hm := List.mem_of_getElem? hx) | (with_reducible refine pureP_wantD ?_ ?_ <;> intro hc) | (with_reducible refine pureP_want ?_ ?_ <;> intro hc) | (with_reducible refine guardX_dec ?_ ?_ <;> intro hc) | (with_reducible refine guardX_split ?_ ?_ <;> intro hc) | (with_reducible refine plainF_at (by omega) (fun x hx => ?_) <;> have hm := List.mem_of_getElem? hx) | simp (disch := first | assumption | omega) only [wrap_id])
@[go_sem] theorem numberR_kl (k n : Int) : askN (KL Tryz.prog cfg) 124 [.agg [.d (.int .i64 k), .d (.int .i64 n)]] [] = .ok (.ret (.d (.int .i64 (if k = 1 then n else 0))), []) := by
  (refine KN_wp rfl Tryz.func124 rfl rfl rfl ?_; show Wp _ _ _ _ (Tryz.f124.body.get rfl) _ _; simp only [Tryz.f124, Option.get_some])
  repeat' (first | simp only [go_sem, ↓reduceIte, Nat.reduceEqDiff, Nat.reduceAdd, Nat.reduceSub, Nat.reduceBEq, Nat.reduceLeDiff, Nat.reduceLT, reduceCtorEq, Int.reduceEq, Int.reduceLT, Int.reduceLE, Int.reduceNeg, Int.reduceToNat, Int.cast_ofNat_Int, *] | (with_reducible refine condP_dec ?_ ?_ <;> intro hc) | (with_reducible refine guardP_dec ?_ ?_ <;> intro hc) | (with_reducible refine condP_split ?_ ?_ <;> intro hc) | (with_reducible refine guardP_split ?_ ?_ <;> intro hc) | (with_reducible refine plainP_at (by omega) (fun x hx => ?_) <;> have hm := List.mem_of_getElem? hx) | (with_reducible refine pureP_wantD ?_ ?_ <;> intro hc) | (with_reducible refine pureP_want ?_ ?_ <;> intro hc) | (with_reducible refine guardX_dec ?_ ?_ <;> intro hc) | (with_reducible refine guardX_split ?_ ?_ <;> intro hc) | (with_reducible refine plainF_at (by omega) (fun x hx => ?_) <;> have hm := List.mem_of_getElem? hx) | simp (disch := first | assumption | omega) only [wrap_id])
@[go_sem] theorem truth_kl (t : Bool) : askN (KL Tryz.prog cfg) 120 [.d (.bool t)] [] = .ok (.ret (.d (.int .i64 (if t = true then 1 else 0))), []) := by
  (refine KN_wp rfl Tryz.func120 rfl rfl rfl ?_; show Wp _ _ _ _ (Tryz.f120.body.get rfl) _ _; simp only [Tryz.f120, Option.get_some])
  repeat' (first | simp only [go_sem, ↓reduceIte, Nat.reduceEqDiff, Nat.reduceAdd, Nat.reduceSub, Nat.reduceBEq, Nat.reduceLeDiff, Nat.reduceLT, reduceCtorEq, Int.reduceEq, Int.reduceLT, Int.reduceLE, Int.reduceNeg, Int.reduceToNat, Int.cast_ofNat_Int, *] | (with_reducible refine condP_dec ?_ ?_ <;> intro hc) | (with_reducible refine guardP_dec ?_ ?_ <;> intro hc) | (with_reducible refine condP_split ?_ ?_ <;> intro hc) | (with_reducible refine guardP_split ?_ ?_ <;> intro hc) | (with_reducible refine plainP_at (by omega) (fun x hx => ?_) <;> have hm := List.mem_of_getElem? hx) | (with_reducible refine pureP_wantD ?_ ?_ <;> intro hc) | (with_reducible refine pureP_want ?_ ?_ <;> intro hc) | (with_reducible refine guardX_dec ?_ ?_ <;> intro hc) | (with_reducible refine guardX_split ?_ ?_ <;> intro hc) | (with_reducible refine plainF_at (by omega) (fun x hx => ?_) <;> have hm := List.mem_of_getElem? hx) | simp (disch := first | assumption | omega) only [wrap_id])
  all_goals grind
def clampV (n : Int) : Int := min (max n (-1000000000)) 1000000000
theorem clampV_eq (n : Int) : (n = clampV n) = (-1000000000 ≤ n ∧ n ≤ 1000000000) := by
  unfold clampV
  apply propext
  omega
@[go_sem] theorem clampR_kl (n : Int) : askN (KL Tryz.prog cfg) 77 [.d (.int .i64 n)] [] = .ok (.ret (.d (.int .i64 (clampV n))), []) := by
  (refine KN_wp rfl Tryz.func77 rfl rfl rfl ?_; show Wp _ _ _ _ (Tryz.f77.body.get rfl) _ _; simp only [Tryz.f77, Option.get_some])
  repeat' (first | simp only [go_sem, ↓reduceIte, Nat.reduceEqDiff, Nat.reduceAdd, Nat.reduceSub, Nat.reduceBEq, Nat.reduceLeDiff, Nat.reduceLT, reduceCtorEq, Int.reduceEq, Int.reduceLT, Int.reduceLE, Int.reduceNeg, Int.reduceToNat, Int.cast_ofNat_Int, *] | (with_reducible refine condP_dec ?_ ?_ <;> intro hc) | (with_reducible refine guardP_dec ?_ ?_ <;> intro hc) | (with_reducible refine condP_split ?_ ?_ <;> intro hc) | (with_reducible refine guardP_split ?_ ?_ <;> intro hc) | (with_reducible refine plainP_at (by omega) (fun x hx => ?_) <;> have hm := List.mem_of_getElem? hx) | (with_reducible refine pureP_wantD ?_ ?_ <;> intro hc) | (with_reducible refine pureP_want ?_ ?_ <;> intro hc) | (with_reducible refine guardX_dec ?_ ?_ <;> intro hc) | (with_reducible refine guardX_split ?_ ?_ <;> intro hc) | (with_reducible refine plainF_at (by omega) (fun x hx => ?_) <;> have hm := List.mem_of_getElem? hx) | simp (disch := first | assumption | omega) only [wrap_id])
  all_goals grind [clampV]
def numV (v : Val) : Int := if v.kind = 1 then v.n else 0
def opV (op a b : Int) : Int := if op = 3 then IntKind.i64.wrap (a + b) else if op = 4 then IntKind.i64.wrap (a - b) else if op = 5 then IntKind.i64.wrap (a * b) else if op = 6 then (if a < b then 1 else 0) else if a = b then 1 else 0
def Exp.value (env : List Val) : Exp → Val
  | .mk op n kids =>
    if op = 1 then ⟨1, n⟩
    else if op = 2 then (env[n.toNat]?).getD ⟨0, 0⟩
    else match kids with
      | [a, b] => ⟨1, clampV (opV op (numV (a.value env)) (numV (b.value env)))⟩
      | _ => ⟨0, 0⟩
theorem value_one (env : List Val) (n : Int) (kids : List Exp) : (Exp.mk 1 n kids).value env = ⟨1, n⟩ := by
  rcases kids with _ | ⟨a, _ | ⟨b, _ | ⟨c, l⟩⟩⟩ <;> simp [Exp.value]
theorem value_name (env : List Val) (n : Int) (kids : List Exp) : (Exp.mk 2 n kids).value env = (env[n.toNat]?).getD ⟨0, 0⟩ := by
  rcases kids with _ | ⟨a, _ | ⟨b, _ | ⟨c, l⟩⟩⟩ <;> simp [Exp.value]
theorem value_bin (env : List Val) (op n : Int) (a b : Exp) (h1 : ¬ op = 1) (h2 : ¬ op = 2) : (Exp.mk op n [a, b]).value env = ⟨1, clampV (opV op (numV (a.value env)) (numV (b.value env)))⟩ := by
  simp [Exp.value, h1, h2]
theorem formed_name {size n : Int} {kids : List Exp} (h : (Exp.mk 2 n kids).formed size = true) : 0 ≤ n ∧ n < size := by
  rcases kids with _ | ⟨a, _ | ⟨b, _ | ⟨c, l⟩⟩⟩ <;> simp [Exp.formed] at h
  exact h
theorem formed_bin {size op n : Int} {kids : List Exp} (h : (Exp.mk op n kids).formed size = true) (h1 : ¬ op = 1) (h2 : ¬ op = 2) : 3 ≤ op ∧ op ≤ 7 ∧ n = 0 ∧ ∃ a b, kids = [a, b] ∧ a.formed size = true ∧ b.formed size = true := by
  rcases kids with _ | ⟨a, _ | ⟨b, _ | ⟨c, l⟩⟩⟩ <;> simp [Exp.formed, h1, h2] at h
  exact ⟨h.1, h.2.1, h.2.2.1, a, b, rfl, h.2.2.2⟩
@[go_sem] theorem valueR_kl (env : List Val) (x : Exp) (hf : x.formed env.length = true) : askN (KL Tryz.prog cfg) 78 [.agg [.d (.int .i64 x.op), .d (.int .i64 x.n), .d (.lst (x.kids.map encExp))], .d (.lst (env.map encVal))] [] = .ok (.ret (.agg [.d (.int .i64 (x.value env).kind), .d (.int .i64 (x.value env).n)]), []) := by
  induction x using Exp.ind with
  | h op n kids ih =>
  simp only [Exp.op_mk, Exp.n_mk, Exp.kids_mk]
  (refine KN_wp rfl Tryz.func78 rfl rfl rfl ?_; show Wp _ _ _ _ (Tryz.f78.body.get rfl) _ _; simp only [Tryz.f78, Option.get_some])
  by_cases h1 : op = 1
  · subst h1
    clear ih
    repeat' (first | simp only [go_sem, ↓reduceIte, Nat.reduceEqDiff, Nat.reduceAdd, Nat.reduceSub, Nat.reduceBEq, Nat.reduceLeDiff, Nat.reduceLT, reduceCtorEq, Int.reduceEq, Int.reduceLT, Int.reduceLE, Int.reduceNeg, Int.reduceToNat, Int.cast_ofNat_Int, *, value_one] | (with_reducible refine condP_dec ?_ ?_ <;> intro hc) | (with_reducible refine guardP_dec ?_ ?_ <;> intro hc) | (with_reducible refine condP_split ?_ ?_ <;> intro hc) | (with_reducible refine guardP_split ?_ ?_ <;> intro hc) | (with_reducible refine plainP_at (by omega) (fun x hx => ?_) <;> have hm := List.mem_of_getElem? hx) | (with_reducible refine pureP_wantD ?_ ?_ <;> intro hc) | (with_reducible refine pureP_want ?_ ?_ <;> intro hc) | (with_reducible refine guardX_dec ?_ ?_ <;> intro hc) | (with_reducible refine guardX_split ?_ ?_ <;> intro hc) | (with_reducible refine plainF_at (by omega) (fun x hx => ?_) <;> have hm := List.mem_of_getElem? hx) | simp (disch := first | assumption | omega) only [wrap_id])
  by_cases h2 : op = 2
  · subst h2
    clear ih
    obtain ⟨hn, hl⟩ := formed_name hf
    have hl : n.toNat < env.length := by omega
    clear hf
    repeat' (first | simp only [go_sem, ↓reduceIte, Nat.reduceEqDiff, Nat.reduceAdd, Nat.reduceSub, Nat.reduceBEq, Nat.reduceLeDiff, Nat.reduceLT, reduceCtorEq, Int.reduceEq, Int.reduceLT, Int.reduceLE, Int.reduceNeg, Int.reduceToNat, Int.cast_ofNat_Int, *, value_name, Option.getD_some] | (with_reducible refine condP_dec ?_ ?_ <;> intro hc) | (with_reducible refine guardP_dec ?_ ?_ <;> intro hc) | (with_reducible refine condP_split ?_ ?_ <;> intro hc) | (with_reducible refine guardP_split ?_ ?_ <;> intro hc) | (with_reducible refine plainP_at (by omega) (fun x hx => ?_) <;> have hm := List.mem_of_getElem? hx) | (with_reducible refine pureP_wantD ?_ ?_ <;> intro hc) | (with_reducible refine pureP_want ?_ ?_ <;> intro hc) | (with_reducible refine guardX_dec ?_ ?_ <;> intro hc) | (with_reducible refine guardX_split ?_ ?_ <;> intro hc) | (with_reducible refine plainF_at (by omega) (fun x hx => ?_) <;> have hm := List.mem_of_getElem? hx) | simp (disch := first | assumption | omega) only [wrap_id])
  obtain ⟨h3, h4, h5, a, b, rfl, hfa, hfb⟩ := formed_bin hf h1 h2
  have ha := ih a (by simp) hfa
  have hb := ih b (by simp) hfb
  clear ih hf
  rw [value_bin env op n a b h1 h2]
  generalize a.value env = u at *
  generalize b.value env = v at *
  repeat' (first | simp only [go_sem, ↓reduceIte, Nat.reduceEqDiff, Nat.reduceAdd, Nat.reduceSub, Nat.reduceBEq, Nat.reduceLeDiff, Nat.reduceLT, reduceCtorEq, Int.reduceEq, Int.reduceLT, Int.reduceLE, Int.reduceNeg, Int.reduceToNat, Int.cast_ofNat_Int, *] | (with_reducible refine condP_dec ?_ ?_ <;> intro hc) | (with_reducible refine guardP_dec ?_ ?_ <;> intro hc) | (with_reducible refine condP_split ?_ ?_ <;> intro hc) | (with_reducible refine guardP_split ?_ ?_ <;> intro hc) | (with_reducible refine plainP_at (by omega) (fun x hx => ?_) <;> have hm := List.mem_of_getElem? hx) | (with_reducible refine pureP_wantD ?_ ?_ <;> intro hc) | (with_reducible refine pureP_want ?_ ?_ <;> intro hc) | (with_reducible refine guardX_dec ?_ ?_ <;> intro hc) | (with_reducible refine guardX_split ?_ ?_ <;> intro hc) | (with_reducible refine plainF_at (by omega) (fun x hx => ?_) <;> have hm := List.mem_of_getElem? hx) | simp (disch := first | assumption | omega) only [wrap_id])
  all_goals grind [numV, clampV, opV]
end Go.Proofs
end
section
namespace Go.Proofs
open Go Go.Abs
set_option maxRecDepth 100000
set_option maxHeartbeats 2000000
set_option linter.unusedSimpArgs false
set_option linter.unusedVariables false
@[go_sem] theorem value_kl (env : List Val) (x : Exp) (hf : x.formed env.length = true) : askN (KL Tryz.prog cfg) 75 [.agg [.d (.int .i64 x.op), .d (.int .i64 x.n), .d (.lst (x.kids.map encExp))], .d (.lst (env.map encVal))] [] = .ok (.ret (.agg [.d (.int .i64 (x.value env).kind), .d (.int .i64 (x.value env).n)]), []) := by
  induction x using Exp.ind with
  | h op n kids ih =>
  simp only [Exp.op_mk, Exp.n_mk, Exp.kids_mk]
  (refine KN_wp rfl Tryz.func75 rfl rfl rfl ?_; show Wp _ _ _ _ (Tryz.f75.body.get rfl) _ _; simp only [Tryz.f75, Option.get_some])
  by_cases h1 : op = 1
  · subst h1
    clear ih
    repeat' (first | simp only [go_sem, ↓reduceIte, Nat.reduceEqDiff, Nat.reduceAdd, Nat.reduceSub, Nat.reduceBEq, Nat.reduceLeDiff, Nat.reduceLT, reduceCtorEq, Int.reduceEq, Int.reduceLT, Int.reduceLE, Int.reduceNeg, Int.reduceToNat, Int.cast_ofNat_Int, *, value_one] | (with_reducible refine condP_dec ?_ ?_ <;> intro hc) | (with_reducible refine guardP_dec ?_ ?_ <;> intro hc) | (with_reducible refine condP_split ?_ ?_ <;> intro hc) | (with_reducible refine guardP_split ?_ ?_ <;> intro hc) | (with_reducible refine plainP_at (by omega) (fun x hx => ?_) <;> have hm := List.mem_of_getElem? hx) | (with_reducible refine pureP_wantD ?_ ?_ <;> intro hc) | (with_reducible refine pureP_want ?_ ?_ <;> intro hc) | (with_reducible refine guardX_dec ?_ ?_ <;> intro hc) | (with_reducible refine guardX_split ?_ ?_ <;> intro hc) | (with_reducible refine plainF_at (by omega) (fun x hx => ?_) <;> have hm := List.mem_of_getElem? hx) | simp (disch := first | assumption | omega) only [wrap_id])
  by_cases h2 : op = 2
  · subst h2
    clear ih
    obtain ⟨hn, hl⟩ := formed_name hf
    have hl : n.toNat < env.length := by omega
    clear hf
    repeat' (first | simp only [go_sem, ↓reduceIte, Nat.reduceEqDiff, Nat.reduceAdd, Nat.reduceSub, Nat.reduceBEq, Nat.reduceLeDiff, Nat.reduceLT, reduceCtorEq, Int.reduceEq, Int.reduceLT, Int.reduceLE, Int.reduceNeg, Int.reduceToNat, Int.cast_ofNat_Int, *, value_name, Option.getD_some] | (with_reducible refine condP_dec ?_ ?_ <;> intro hc) | (with_reducible refine guardP_dec ?_ ?_ <;> intro hc) | (with_reducible refine condP_split ?_ ?_ <;> intro hc) | (with_reducible refine guardP_split ?_ ?_ <;> intro hc) | (with_reducible refine plainP_at (by omega) (fun x hx => ?_) <;> have hm := List.mem_of_getElem? hx) | (with_reducible refine pureP_wantD ?_ ?_ <;> intro hc) | (with_reducible refine pureP_want ?_ ?_ <;> intro hc) | (with_reducible refine guardX_dec ?_ ?_ <;> intro hc) | (with_reducible refine guardX_split ?_ ?_ <;> intro hc) | (with_reducible refine plainF_at (by omega) (fun x hx => ?_) <;> have hm := List.mem_of_getElem? hx) | simp (disch := first | assumption | omega) only [wrap_id])
  obtain ⟨h3, h4, h5, a, b, rfl, hfa, hfb⟩ := formed_bin hf h1 h2
  have ha := ih a (by simp) hfa
  have hb := ih b (by simp) hfb
  clear ih hf
  rw [value_bin env op n a b h1 h2]
  generalize a.value env = u at *
  generalize b.value env = v at *
  repeat' (first | simp only [go_sem, ↓reduceIte, Nat.reduceEqDiff, Nat.reduceAdd, Nat.reduceSub, Nat.reduceBEq, Nat.reduceLeDiff, Nat.reduceLT, reduceCtorEq, Int.reduceEq, Int.reduceLT, Int.reduceLE, Int.reduceNeg, Int.reduceToNat, Int.cast_ofNat_Int, *] | (with_reducible refine condP_dec ?_ ?_ <;> intro hc) | (with_reducible refine guardP_dec ?_ ?_ <;> intro hc) | (with_reducible refine condP_split ?_ ?_ <;> intro hc) | (with_reducible refine guardP_split ?_ ?_ <;> intro hc) | (with_reducible refine plainP_at (by omega) (fun x hx => ?_) <;> have hm := List.mem_of_getElem? hx) | (with_reducible refine pureP_wantD ?_ ?_ <;> intro hc) | (with_reducible refine pureP_want ?_ ?_ <;> intro hc) | (with_reducible refine guardX_dec ?_ ?_ <;> intro hc) | (with_reducible refine guardX_split ?_ ?_ <;> intro hc) | (with_reducible refine plainF_at (by omega) (fun x hx => ?_) <;> have hm := List.mem_of_getElem? hx) | simp (disch := first | assumption | omega) only [wrap_id])
  all_goals grind [numV, clampV, opV]
mutual
def Exp.nodesM : Exp → Int → Int
  | .mk _ _ kids, most => nodesL kids 1 most
def nodesL : List Exp → Int → Int → Int
  | [], n, _ => n
  | k :: l, n, most => if n ≤ most then nodesL l (n + k.nodesM (most - n)) most else n
end
mutual
theorem nodesM_le : ∀ (x : Exp) (most : Int), 0 ≤ most → 1 ≤ x.nodesM most ∧ x.nodesM most ≤ most + 1
  | .mk op n kids, most, h => by
    rw [Exp.nodesM]
    exact nodesL_le kids 1 most (by omega) (by omega)
theorem nodesL_le : ∀ (l : List Exp) (n most : Int), 1 ≤ n → n ≤ most + 1 → 1 ≤ nodesL l n most ∧ nodesL l n most ≤ most + 1
  | [], n, most, h1, h2 => by simp [nodesL]; omega
  | k :: l, n, most, h1, h2 => by
    rw [nodesL]
    split
    · rename_i h
      have := nodesM_le k (most - n) (by omega)
      exact nodesL_le l _ most (by omega) (by omega)
    · omega
end
theorem nodesL_full (l : List Exp) (n most : Int) (h : ¬ n ≤ most) : nodesL l n most = n := by
  cases l <;> simp [nodesL, h]
theorem drop_cons {α : Type} {l : List α} {i : Nat} {x : α} (h : l[i]? = some x) : l.drop i = x :: l.drop (i + 1) := by
  have hi := (List.getElem?_eq_some_iff.1 h).1
  rw [List.drop_eq_getElem_cons hi]
  congr 1
  have := List.getElem?_eq_getElem hi
  rw [h] at this
  injection this with this
  exact this.symm
theorem lt_of_get {α : Type} {l : List α} {i : Nat} {x : α} (h : l[i]? = some x) : i < l.length := (List.getElem?_eq_some_iff.1 h).1
theorem wrap_nat {n : Nat} (h : n < 9223372036854775808) : IntKind.i64.wrap n = n := wrap_id (by omega) (by omega)
@[go_sem] theorem expNodes_kl (x : Exp) (most : Int) (h0 : 0 ≤ most) (h1 : most ≤ 60) : askN (KL Tryz.prog cfg) 121 [.agg [.d (.int .i64 x.op), .d (.int .i64 x.n), .d (.lst (x.kids.map encExp))], .d (.int .i64 most)] [] = .ok (.ret (.d (.int .i64 (x.nodesM most))), []) := by
  revert most
  induction x using Exp.ind with
  | h op n kids ih =>
  intro most h0 h1
  simp only [Exp.op_mk, Exp.n_mk, Exp.kids_mk] at *
  (refine KN_wp rfl Tryz.func121 rfl rfl rfl ?_; show Wp _ _ _ _ (Tryz.f121.body.get rfl) _ _; simp only [Tryz.f121, Option.get_some])
  repeat' (first | simp only [go_sem, ↓reduceIte, Nat.reduceEqDiff, Nat.reduceAdd, Nat.reduceSub, Nat.reduceBEq, Nat.reduceLeDiff, Nat.reduceLT, reduceCtorEq, Int.reduceEq, Int.reduceLT, Int.reduceLE, Int.reduceNeg, Int.reduceToNat, Int.cast_ofNat_Int, *] | (with_reducible refine condP_dec ?_ ?_ <;> intro hc) | (with_reducible refine guardP_dec ?_ ?_ <;> intro hc) | (with_reducible refine condP_split ?_ ?_ <;> intro hc) | (with_reducible refine guardP_split ?_ ?_ <;> intro hc) | (with_reducible refine plainP_at (by omega) (fun x hx => ?_) <;> have hm := List.mem_of_getElem? hx) | (with_reducible refine pureP_wantD ?_ ?_ <;> intro hc) | (with_reducible refine pureP_want ?_ ?_ <;> intro hc) | (with_reducible refine guardX_dec ?_ ?_ <;> intro hc) | (with_reducible refine guardX_split ?_ ?_ <;> intro hc) | (with_reducible refine plainF_at (by omega) (fun x hx => ?_) <;> have hm := List.mem_of_getElem? hx) | simp (disch := first | assumption | omega) only [wrap_id])
  refine rounds (S := fun a : Nat × Int => ⟨[(1, .d (.int .i64 most)), (2, .ptr [0, 0] 0), (5, .d (.int .i64 a.2)), (6, .d (.int .i64 a.1))], [([0, 0], .box [.d (.int .i64 op), .d (.int .i64 n), .d (.lst (kids.map encExp))])], 1, []⟩)
    (Inv := fun a => a.1 ≤ kids.length ∧ (a.1 : Int) + 1 ≤ a.2 ∧ a.2 ≤ most + 1 ∧ nodesL kids 1 most = nodesL (kids.drop a.1) a.2 most) (m := fun a => kids.length - a.1) (a := (0, 1)) ⟨by simp, by simp, by simp; omega, by simp⟩ ?_
  rintro ⟨i, c⟩ ⟨h2, h3, h4, h5⟩ IH
  dsimp only at *
  repeat' (first | simp only [go_sem, ↓reduceIte, Nat.reduceEqDiff, Nat.reduceAdd, Nat.reduceSub, Nat.reduceBEq, Nat.reduceLeDiff, Nat.reduceLT, reduceCtorEq, Int.reduceEq, Int.reduceLT, Int.reduceLE, Int.reduceNeg, Int.reduceToNat, Int.cast_ofNat_Int, *] | (with_reducible refine condP_dec ?_ ?_ <;> intro hc) | (with_reducible refine guardP_dec ?_ ?_ <;> intro hc) | (with_reducible refine condP_split ?_ ?_ <;> intro hc) | (with_reducible refine guardP_split ?_ ?_ <;> intro hc) | (with_reducible refine plainP_at (by omega) (fun x hx => ?_) <;> have hm := List.mem_of_getElem? hx) | (with_reducible refine pureP_wantD ?_ ?_ <;> intro hc) | (with_reducible refine pureP_want ?_ ?_ <;> intro hc) | (with_reducible refine guardX_dec ?_ ?_ <;> intro hc) | (with_reducible refine guardX_split ?_ ?_ <;> intro hc) | (with_reducible refine plainF_at (by omega) (fun x hx => ?_) <;> have hm := List.mem_of_getElem? hx) | simp (disch := first | assumption | omega) only [wrap_id, ih])
  · have h6 := nodesM_le x (most - c) (by omega)
    have h7 : nodesL (kids.drop i) c most = nodesL (kids.drop (i + 1)) (c + x.nodesM (most - c)) most := by
      rw [drop_cons hx, nodesL, if_pos (by assumption)]
    rw [wrap_id (by omega) (by omega)]
    simpa only [Int.natCast_add, Int.cast_ofNat_Int] using IH.out (i + 1, c + x.nodesM (most - c)) (by dsimp only; omega) ⟨by dsimp only; omega, by dsimp only; omega, by dsimp only; omega, by dsimp only; rw [h5, h7]⟩
  · rw [Exp.nodesM, h5, nodesL_full _ _ _ (by assumption)]
  · rw [Exp.nodesM, h5, List.drop_eq_nil_of_le (by omega)]
    rfl
mutual
def Exp.size : Exp → Nat
  | .mk _ _ kids => 1 + sizeL kids
def sizeL : List Exp → Nat
  | [] => 0
  | k :: l => k.size + sizeL l
end
mutual
theorem nodesM_eq : ∀ (x : Exp) (most : Int), 0 ≤ most → ((x.size : Int) ≤ most → x.nodesM most = x.size) ∧ (most < x.size → most < x.nodesM most)
  | .mk op n kids, most, h => by
    rw [Exp.nodesM, Exp.size]
    have := nodesL_eq kids 1 most (by omega)
    constructor
    · intro h1; rw [this.1 (by omega)]; omega
    · intro h1; exact this.2 (by omega)
theorem nodesL_eq : ∀ (l : List Exp) (n most : Int), n ≤ most + 1 → (n + sizeL l ≤ most → nodesL l n most = n + sizeL l) ∧ (most < n + sizeL l → most < nodesL l n most)
  | [], n, most, h1 => by
    simp [nodesL, sizeL]
  | k :: l, n, most, h1 => by
    rw [nodesL, sizeL]
    split
    · rename_i h
      have h2 := nodesM_eq k (most - n) (by omega)
      have h3 := nodesM_le k (most - n) (by omega)
      have h4 := nodesL_eq l (n + k.nodesM (most - n)) most (by omega)
      by_cases h5 : (k.size : Int) ≤ most - n
      · rw [h2.1 h5] at h4 ⊢
        constructor
        · intro h6; rw [h4.1 (by omega)]; omega
        · intro h6; exact h4.2 (by omega)
      · have := h2.2 (by omega)
        constructor
        · intro h6; omega
        · intro h6; exact h4.2 (by omega)
    · omega
end
mutual
def Exp.depth : Exp → Nat
  | .mk _ _ kids => depthL kids + 1
def depthL : List Exp → Nat
  | [] => 0
  | k :: l => max k.depth (depthL l)
end
mutual
theorem depth_le : ∀ (x : Exp), x.depth ≤ x.size
  | .mk op n kids => by
    rw [Exp.depth, Exp.size]
    have := depthL_le kids
    omega
theorem depthL_le : ∀ (l : List Exp), depthL l ≤ sizeL l
  | [] => by simp [depthL, sizeL]
  | k :: l => by
    rw [depthL, sizeL]
    have := depth_le k
    have := depthL_le l
    omega
end
theorem size_mem {k : Exp} : ∀ {l : List Exp}, k ∈ l → k.size ≤ sizeL l
  | [], h => by cases h
  | x :: l, h => by
    rw [sizeL]
    rcases List.mem_cons.1 h with rfl | h
    · omega
    · have := size_mem h
      omega
theorem size_pos (x : Exp) : 1 ≤ x.size := by cases x; simp [Exp.size]
theorem sizeL_len : ∀ (l : List Exp), l.length ≤ sizeL l
  | [] => by simp
  | x :: l => by
    have := size_pos x
    have := sizeL_len l
    simp [sizeL]
    omega
@[go_sem] theorem expDepth_kl (x : Exp) (h0 : x.size ≤ 60) : askN (KL Tryz.prog cfg) 122 [.agg [.d (.int .i64 x.op), .d (.int .i64 x.n), .d (.lst (x.kids.map encExp))]] [] = .ok (.ret (.d (.int .i64 x.depth)), []) := by
  revert h0
  induction x using Exp.ind with
  | h op n kids ih =>
  intro h0
  simp only [Exp.op_mk, Exp.n_mk, Exp.kids_mk] at *
  have hlen := sizeL_len kids
  have hlen2 : sizeL kids ≤ 59 := by rw [Exp.size] at h0; omega
  clear h0
  have ih : ∀ k ∈ kids, askN (KL Tryz.prog cfg) 122 [.agg [.d (.int .i64 k.op), .d (.int .i64 k.n), .d (.lst (k.kids.map encExp))]] [] = .ok (.ret (.d (.int .i64 k.depth)), []) := fun k hk => ih k hk (by have := size_mem hk; omega)
  (refine KN_wp rfl Tryz.func122 rfl rfl rfl ?_; show Wp _ _ _ _ (Tryz.f122.body.get rfl) _ _; simp only [Tryz.f122, Option.get_some])
  repeat' (first | simp only [go_sem, ↓reduceIte, Nat.reduceEqDiff, Nat.reduceAdd, Nat.reduceSub, Nat.reduceBEq, Nat.reduceLeDiff, Nat.reduceLT, reduceCtorEq, Int.reduceEq, Int.reduceLT, Int.reduceLE, Int.reduceNeg, Int.reduceToNat, Int.cast_ofNat_Int, *] | (with_reducible refine condP_dec ?_ ?_ <;> intro hc) | (with_reducible refine guardP_dec ?_ ?_ <;> intro hc) | (with_reducible refine condP_split ?_ ?_ <;> intro hc) | (with_reducible refine guardP_split ?_ ?_ <;> intro hc) | (with_reducible refine plainP_at (by omega) (fun x hx => ?_) <;> have hm := List.mem_of_getElem? hx) | (with_reducible refine pureP_wantD ?_ ?_ <;> intro hc) | (with_reducible refine pureP_want ?_ ?_ <;> intro hc) | (with_reducible refine guardX_dec ?_ ?_ <;> intro hc) | (with_reducible refine guardX_split ?_ ?_ <;> intro hc) | (with_reducible refine plainF_at (by omega) (fun x hx => ?_) <;> have hm := List.mem_of_getElem? hx) | simp (disch := first | assumption | omega) only [wrap_id])
  refine rounds (S := fun a : Nat × Nat => ⟨[(1, .ptr [0, 0] 0), (3, .d (.int .i64 a.2)), (4, .d (.int .i64 a.1))], [([0, 0], .box [.d (.int .i64 op), .d (.int .i64 n), .d (.lst (kids.map encExp))])], 1, []⟩)
    (Inv := fun a => a.1 ≤ kids.length ∧ a.2 ≤ 60 ∧ depthL kids = max a.2 (depthL (kids.drop a.1))) (m := fun a => kids.length - a.1) (a := (0, 0)) ⟨by simp, by simp, by simp⟩ ?_
  rintro ⟨i, c⟩ ⟨h2, h3, h4⟩ IH
  dsimp only at *
  repeat' (first | simp only [go_sem, ↓reduceIte, Nat.reduceEqDiff, Nat.reduceAdd, Nat.reduceSub, Nat.reduceBEq, Nat.reduceLeDiff, Nat.reduceLT, reduceCtorEq, Int.reduceEq, Int.reduceLT, Int.reduceLE, Int.reduceNeg, Int.reduceToNat, Int.cast_ofNat_Int, *] | (with_reducible refine condP_dec ?_ ?_ <;> intro hc) | (with_reducible refine guardP_dec ?_ ?_ <;> intro hc) | (with_reducible refine condP_split ?_ ?_ <;> intro hc) | (with_reducible refine guardP_split ?_ ?_ <;> intro hc) | (with_reducible refine plainP_at (by omega) (fun x hx => ?_) <;> have hm := List.mem_of_getElem? hx) | (with_reducible refine pureP_wantD ?_ ?_ <;> intro hc) | (with_reducible refine pureP_want ?_ ?_ <;> intro hc) | (with_reducible refine guardX_dec ?_ ?_ <;> intro hc) | (with_reducible refine guardX_split ?_ ?_ <;> intro hc) | (with_reducible refine plainF_at (by omega) (fun x hx => ?_) <;> have hm := List.mem_of_getElem? hx) | simp (disch := first | assumption | omega) only [wrap_id, ih])
  · have h5 : depthL (kids.drop i) = max x.depth (depthL (kids.drop (i + 1))) := by
      rw [drop_cons hx, depthL]
    have h6 := depth_le x
    have h7 := size_mem hm
    have e : (if (x.depth : Int) > (c : Int) then (x.depth : Int) else (c : Int)) = ((max c x.depth : Nat) : Int) := by split <;> omega
    rw [e]
    simpa only [Int.natCast_add, Int.cast_ofNat_Int] using IH.out (i + 1, max c x.depth) (by dsimp only; omega) ⟨by dsimp only; omega, by dsimp only; omega, by dsimp only; omega⟩
  · rw [Exp.depth, h4, List.drop_eq_nil_of_le (by omega)]
    simp [depthL]
def Exp.ok (size : Int) (x : Exp) : Bool := decide (x.size ≤ 60) && (decide (x.depth ≤ 12) && x.formed size)
@[go_sem] theorem expFormed_kl (size : Int) (x : Exp) : askN (KL Tryz.prog cfg) 76 [.agg [.d (.int .i64 x.op), .d (.int .i64 x.n), .d (.lst (x.kids.map encExp))], .d (.int .i64 size)] [] = .ok (.ret (.d (.bool (x.ok size))), []) := by
  have h1 := nodesM_eq x 60 (by omega)
  (refine KN_wp rfl Tryz.func76 rfl rfl rfl ?_; show Wp _ _ _ _ (Tryz.f76.body.get rfl) _ _; simp only [Tryz.f76, Option.get_some])
  by_cases hs : x.size ≤ 60
  · have h2 := h1.1 (by omega)
    clear h1
    repeat' (first | simp only [go_sem, ↓reduceIte, Nat.reduceEqDiff, Nat.reduceAdd, Nat.reduceSub, Nat.reduceBEq, Nat.reduceLeDiff, Nat.reduceLT, reduceCtorEq, Int.reduceEq, Int.reduceLT, Int.reduceLE, Int.reduceNeg, Int.reduceToNat, Int.cast_ofNat_Int, *] | (with_reducible refine condP_dec ?_ ?_ <;> intro hc) | (with_reducible refine guardP_dec ?_ ?_ <;> intro hc) | (with_reducible refine condP_split ?_ ?_ <;> intro hc) | (with_reducible refine guardP_split ?_ ?_ <;> intro hc) | (with_reducible refine plainP_at (by omega) (fun x hx => ?_) <;> have hm := List.mem_of_getElem? hx) | (with_reducible refine pureP_wantD ?_ ?_ <;> intro hc) | (with_reducible refine pureP_want ?_ ?_ <;> intro hc) | (with_reducible refine guardX_dec ?_ ?_ <;> intro hc) | (with_reducible refine guardX_split ?_ ?_ <;> intro hc) | (with_reducible refine plainF_at (by omega) (fun x hx => ?_) <;> have hm := List.mem_of_getElem? hx) | simp (disch := first | assumption | omega) only [wrap_id, expNodes_kl])
    all_goals grind [Exp.ok]
  · have h2 := h1.2 (by omega)
    clear h1
    repeat' (first | simp only [go_sem, ↓reduceIte, Nat.reduceEqDiff, Nat.reduceAdd, Nat.reduceSub, Nat.reduceBEq, Nat.reduceLeDiff, Nat.reduceLT, reduceCtorEq, Int.reduceEq, Int.reduceLT, Int.reduceLE, Int.reduceNeg, Int.reduceToNat, Int.cast_ofNat_Int, *] | (with_reducible refine condP_dec ?_ ?_ <;> intro hc) | (with_reducible refine guardP_dec ?_ ?_ <;> intro hc) | (with_reducible refine condP_split ?_ ?_ <;> intro hc) | (with_reducible refine guardP_split ?_ ?_ <;> intro hc) | (with_reducible refine plainP_at (by omega) (fun x hx => ?_) <;> have hm := List.mem_of_getElem? hx) | (with_reducible refine pureP_wantD ?_ ?_ <;> intro hc) | (with_reducible refine pureP_want ?_ ?_ <;> intro hc) | (with_reducible refine guardX_dec ?_ ?_ <;> intro hc) | (with_reducible refine guardX_split ?_ ?_ <;> intro hc) | (with_reducible refine plainF_at (by omega) (fun x hx => ?_) <;> have hm := List.mem_of_getElem? hx) | simp (disch := first | assumption | omega) only [wrap_id, expNodes_kl])
    all_goals grind [Exp.ok]
def Val.ok (v : Val) : Bool := decide (1 ≤ v.kind) && (decide (v.kind ≤ 4) && (!decide (v.kind = 1) || (decide (-1000000000 ≤ v.n) && decide (v.n ≤ 1000000000))))
def valueS (x : Exp) (env : List Val) : Val × Int := if x.ok env.length && env.all Val.ok then (x.value env, 0) else (⟨0, 0⟩, 2)
theorem valueS_bad (x : Exp) {env : List Val} (h : env.all Val.ok = false) : valueS x env = (⟨0, 0⟩, 2) := by
  simp [valueS, h]
@[go_sem] theorem ValueR_kl (x : Exp) (env : List Val) (hl : env.length ≤ 60) : askN (KL Tryz.prog cfg) 42 [.agg [.d (.int .i64 x.op), .d (.int .i64 x.n), .d (.lst (x.kids.map encExp))], .d (.lst (env.map encVal))] [] = .ok (.ret (.tup [.agg [.d (.int .i64 (valueS x env).1.kind), .d (.int .i64 (valueS x env).1.n)], .d (.int .i64 (valueS x env).2)]), []) := by
  (refine KN_wp rfl Tryz.func42 rfl rfl rfl ?_; show Wp _ _ _ _ (Tryz.f42.body.get rfl) _ _; simp only [Tryz.f42, Option.get_some])
  repeat' (first | simp only [go_sem, ↓reduceIte, Nat.reduceEqDiff, Nat.reduceAdd, Nat.reduceSub, Nat.reduceBEq, Nat.reduceLeDiff, Nat.reduceLT, reduceCtorEq, Int.reduceEq, Int.reduceLT, Int.reduceLE, Int.reduceNeg, Int.reduceToNat, Int.cast_ofNat_Int, *] | (with_reducible refine condP_dec ?_ ?_ <;> intro hc) | (with_reducible refine guardP_dec ?_ ?_ <;> intro hc) | (with_reducible refine condP_split ?_ ?_ <;> intro hc) | (with_reducible refine guardP_split ?_ ?_ <;> intro hc) | (with_reducible refine plainP_at (by omega) (fun x hx => ?_) <;> have hm := List.mem_of_getElem? hx) | (with_reducible refine pureP_wantD ?_ ?_ <;> intro hc) | (with_reducible refine pureP_want ?_ ?_ <;> intro hc) | (with_reducible refine guardX_dec ?_ ?_ <;> intro hc) | (with_reducible refine guardX_split ?_ ?_ <;> intro hc) | (with_reducible refine plainF_at (by omega) (fun x hx => ?_) <;> have hm := List.mem_of_getElem? hx) | simp (disch := first | assumption | omega) only [wrap_id])
  · refine rounds (S := fun i : Nat => ⟨[(1, .d (.lst (env.map encVal))), (2, .ptr [0, 0] 0), (4, .ptr [0, 1] 0), (6, .d (.int .i64 i))], [([0, 0], .box [.d (.int .i64 x.op), .d (.int .i64 x.n), .d (.lst (x.kids.map encExp))]), ([0, 1], .box [.d (.int .i64 0), .d (.int .i64 0)])], 2, []⟩)
      (Inv := fun i => i ≤ env.length ∧ (env.drop i).all Val.ok = env.all Val.ok) (m := fun i => env.length - i) (a := 0) ⟨by simp, by simp⟩ ?_
    rintro i ⟨h2, h4⟩ IH
    have hxf : x.formed env.length = true := by grind [Exp.ok]
    have hox := hc
    clear hc
    repeat' (first | simp only [go_sem, ↓reduceIte, Nat.reduceEqDiff, Nat.reduceAdd, Nat.reduceSub, Nat.reduceBEq, Nat.reduceLeDiff, Nat.reduceLT, reduceCtorEq, Int.reduceEq, Int.reduceLT, Int.reduceLE, Int.reduceNeg, Int.reduceToNat, Int.cast_ofNat_Int, *, clampV_eq] | (with_reducible refine condP_dec ?_ ?_ <;> intro hc) | (with_reducible refine guardP_dec ?_ ?_ <;> intro hc) | (with_reducible refine condP_split ?_ ?_ <;> intro hc) | (with_reducible refine guardP_split ?_ ?_ <;> intro hc) | (with_reducible refine plainP_at (by omega) (fun x hx => ?_) <;> have hm := List.mem_of_getElem? hx) | (with_reducible refine pureP_wantD ?_ ?_ <;> intro hc) | (with_reducible refine pureP_want ?_ ?_ <;> intro hc) | (with_reducible refine guardX_dec ?_ ?_ <;> intro hc) | (with_reducible refine guardX_split ?_ ?_ <;> intro hc) | (with_reducible refine plainF_at (by omega) (fun x hx => ?_) <;> have hm := List.mem_of_getElem? hx) | simp (disch := first | assumption | omega) only [wrap_id, valueR_kl])
    · rw [valueS_bad (env := env) _ (by rw [← h4, drop_cons hx, List.all_cons]; grind [Val.ok])]
    · rw [valueS_bad (env := env) _ (by rw [← h4, drop_cons hx, List.all_cons]; grind [Val.ok])]
    · refine IH.out (i + 1) (by omega) ⟨by omega, ?_⟩
      rw [← h4, drop_cons hx, List.all_cons]; grind [Val.ok]
    · rw [valueS_bad (env := env) _ (by rw [← h4, drop_cons hx, List.all_cons]; grind [Val.ok])]
    · refine IH.out (i + 1) (by omega) ⟨by omega, ?_⟩
      rw [← h4, drop_cons hx, List.all_cons]; grind [Val.ok]
    · rw [List.drop_eq_nil_of_le (by omega)] at h4
      simp [valueS, hox, ← h4]
  · simp [valueS, hc]
end Go.Proofs
end
section
namespace Go.Proofs
open Go Go.Abs
set_option maxRecDepth 100000
set_option maxHeartbeats 2000000
set_option linter.unusedSimpArgs false
set_option linter.unusedVariables false
def flawV (n : Int) : AV := .iface 177 (.agg [.d (.int .i64 n)])
theorem flawV_flat (n : Int) : flat (flawV n) = true := by simp [flawV, flat, flatL, flatD]
attribute [go_sem] flawV_flat
@[go_sem] theorem leave_flaw (l : List Df) (h : Heap) (id : Abs.Id) (off : Nat) (n : Int) : leave cfg none (.call 50 [.ptr id off] :: l) (some (flawV n)) h = leaveB cfg none l h id off .i64 n (h.get id) := by
  rw [flawV, leave_caught caught50 (wok_none _)]
@[go_sem] theorem give_kl (n : Int) : askN (KL Tryz.prog cfg) 107 [.d (.int .i64 n)] [] = .ok (.pan (flawV n), []) := by
  (refine KN_wp rfl Tryz.func107 rfl rfl rfl ?_; show Wp _ _ _ _ (Tryz.f107.body.get rfl) _ _; simp only [Tryz.f107, Option.get_some])
  repeat' (first | simp only [go_sem, ↓reduceIte, Nat.reduceEqDiff, Nat.reduceAdd, Nat.reduceSub, Nat.reduceBEq, Nat.reduceLeDiff, Nat.reduceLT, reduceCtorEq, Int.reduceEq, Int.reduceLT, Int.reduceLE, Int.reduceNeg, Int.reduceToNat, Int.cast_ofNat_Int, *, flawV] | (with_reducible refine condP_dec ?_ ?_ <;> intro hc) | (with_reducible refine guardP_dec ?_ ?_ <;> intro hc) | (with_reducible refine condP_split ?_ ?_ <;> intro hc) | (with_reducible refine guardP_split ?_ ?_ <;> intro hc) | (with_reducible refine plainP_at (by omega) (fun x hx => ?_) <;> have hm := List.mem_of_getElem? hx) | (with_reducible refine pureP_wantD ?_ ?_ <;> intro hc) | (with_reducible refine pureP_want ?_ ?_ <;> intro hc) | (with_reducible refine guardX_dec ?_ ?_ <;> intro hc) | (with_reducible refine guardX_split ?_ ?_ <;> intro hc) | (with_reducible refine plainF_at (by omega) (fun x hx => ?_) <;> have hm := List.mem_of_getElem? hx) | simp (disch := first | assumption | omega) only [wrap_id])
@[go_sem] theorem want_kl (t : Bool) : askN (KL Tryz.prog cfg) 62 [.d (.bool t)] [] = wantR (flawV 2) t := by
  cases t
  · rw [wantR_false]
    (refine KN_wp rfl Tryz.func62 rfl rfl rfl ?_; show Wp _ _ _ _ (Tryz.f62.body.get rfl) _ _; simp only [Tryz.f62, Option.get_some])
    repeat' (first | simp only [go_sem, ↓reduceIte, Nat.reduceEqDiff, Nat.reduceAdd, Nat.reduceSub, Nat.reduceBEq, Nat.reduceLeDiff, Nat.reduceLT, reduceCtorEq, Int.reduceEq, Int.reduceLT, Int.reduceLE, Int.reduceNeg, Int.reduceToNat, Int.cast_ofNat_Int, *] | (with_reducible refine condP_dec ?_ ?_ <;> intro hc) | (with_reducible refine guardP_dec ?_ ?_ <;> intro hc) | (with_reducible refine condP_split ?_ ?_ <;> intro hc) | (with_reducible refine guardP_split ?_ ?_ <;> intro hc) | (with_reducible refine plainP_at (by omega) (fun x hx => ?_) <;> have hm := List.mem_of_getElem? hx) | (with_reducible refine pureP_wantD ?_ ?_ <;> intro hc) | (with_reducible refine pureP_want ?_ ?_ <;> intro hc) | (with_reducible refine guardX_dec ?_ ?_ <;> intro hc) | (with_reducible refine guardX_split ?_ ?_ <;> intro hc) | (with_reducible refine plainF_at (by omega) (fun x hx => ?_) <;> have hm := List.mem_of_getElem? hx) | simp (disch := first | assumption | omega) only [wrap_id])
  · rw [wantR_true]
    (refine KN_wp rfl Tryz.func62 rfl rfl rfl ?_; show Wp _ _ _ _ (Tryz.f62.body.get rfl) _ _; simp only [Tryz.f62, Option.get_some])
    repeat' (first | simp only [go_sem, ↓reduceIte, Nat.reduceEqDiff, Nat.reduceAdd, Nat.reduceSub, Nat.reduceBEq, Nat.reduceLeDiff, Nat.reduceLT, reduceCtorEq, Int.reduceEq, Int.reduceLT, Int.reduceLE, Int.reduceNeg, Int.reduceToNat, Int.cast_ofNat_Int, *] | (with_reducible refine condP_dec ?_ ?_ <;> intro hc) | (with_reducible refine guardP_dec ?_ ?_ <;> intro hc) | (with_reducible refine condP_split ?_ ?_ <;> intro hc) | (with_reducible refine guardP_split ?_ ?_ <;> intro hc) | (with_reducible refine plainP_at (by omega) (fun x hx => ?_) <;> have hm := List.mem_of_getElem? hx) | (with_reducible refine pureP_wantD ?_ ?_ <;> intro hc) | (with_reducible refine pureP_want ?_ ?_ <;> intro hc) | (with_reducible refine guardX_dec ?_ ?_ <;> intro hc) | (with_reducible refine guardX_split ?_ ?_ <;> intro hc) | (with_reducible refine plainF_at (by omega) (fun x hx => ?_) <;> have hm := List.mem_of_getElem? hx) | simp (disch := first | assumption | omega) only [wrap_id])
def okE (x : Exp) (size depth left : Int) : Prop := (x.size : Int) ≤ left ∧ depth + x.depth ≤ 13 ∧ x.formed size = true
structure ExpPost (x : Exp) (size depth left : Int) (h : Heap) (π : List Nat) (id : Abs.Id) (o : COut) (h' : Heap) : Prop where
  ret : okE x size depth left → o = .ret (.tup []) ∧ h'.get id = some (.box [.d (.int .i64 (left - x.size))])
  pan : ¬ okE x size depth left → o = .pan (flawV 2)
  frame : ∀ id', Id.under π id' = false → Id.is id id' = false → h'.get id' = h.get id'
theorem post_pan {x : Exp} {size depth left : Int} {h : Heap} {π : List Nat} {id : Abs.Id} {h' : Heap} (hk : ¬ okE x size depth left) (hf : ∀ id', Id.under π id' = false → Id.is id id' = false → h'.get id' = h.get id') : ExpPost x size depth left h π id (.pan (flawV 2)) h' := ⟨fun h => absurd h hk, fun _ => rfl, hf⟩
theorem post_ret {x : Exp} {size depth left : Int} {h : Heap} {π : List Nat} {id : Abs.Id} {h' : Heap} (hk : okE x size depth left) (hg : h'.get id = some (.box [.d (.int .i64 (left - x.size))])) (hf : ∀ id', Id.under π id' = false → Id.is id id' = false → h'.get id' = h.get id') : ExpPost x size depth left h π id (.ret (.tup [])) h' := ⟨fun _ => ⟨rfl, hg⟩, fun h => absurd hk h, hf⟩
theorem expression_kl (x : Exp) : ∀ (size depth left : Int) (h : Heap) (π : List Nat) (id : Abs.Id), h.get id = some (.box [.d (.int .i64 left)]) → Id.under π id = false → 0 ≤ left → left ≤ 60 → 1 ≤ depth → depth ≤ 70 →
    ∃ o h', KL Tryz.prog cfg (.fn 74) [.agg [.d (.int .i64 x.op), .d (.int .i64 x.n), .d (.lst (x.kids.map encExp))], .d (.int .i64 size), .d (.int .i64 depth), .ptr id 0] h π true none = .ok (o, h') ∧ ExpPost x size depth left h π id o h' := by
  induction x using Exp.ind with
  | h op n kids ih =>
  intro size depth left h π id hg hu h1 h2 h3 h4
  simp only [Exp.op_mk, Exp.n_mk, Exp.kids_mk] at *
  have u1 := not_is hu
  have u2 := not_is' hu
  have u3 := under_ext hu
  have w1 : IntKind.i64.wrap (left - 1) = left - 1 := wrap_id (by omega) (by omega)
  have w2 : IntKind.i64.wrap (depth + 1) = depth + 1 := wrap_id (by omega) (by omega)
  (refine KL_post rfl Tryz.func74 rfl rfl rfl ?_; show Wp _ _ _ _ (Tryz.f74.body.get rfl) _ _; simp only [Tryz.f74, Option.get_some])
  have ih := Later.mk ih
  rcases kids with _ | ⟨a, _ | ⟨b, _ | ⟨c, l⟩⟩⟩
  · repeat' (first | simp only [go_sem, ↓reduceIte, Nat.reduceEqDiff, Nat.reduceAdd, Nat.reduceSub, Nat.reduceBEq, Nat.reduceLeDiff, Nat.reduceLT, reduceCtorEq, Int.reduceEq, Int.reduceLT, Int.reduceLE, Int.reduceNeg, Int.reduceToNat, Int.cast_ofNat_Int, *] | (with_reducible refine condP_dec ?_ ?_ <;> intro hc) | (with_reducible refine guardP_dec ?_ ?_ <;> intro hc) | (with_reducible refine condP_split ?_ ?_ <;> intro hc) | (with_reducible refine guardP_split ?_ ?_ <;> intro hc) | (with_reducible refine plainP_at (by omega) (fun x hx => ?_) <;> have hm := List.mem_of_getElem? hx) | (with_reducible refine pureP_wantD ?_ ?_ <;> intro hc) | (with_reducible refine pureP_want ?_ ?_ <;> intro hc) | (with_reducible refine guardX_dec ?_ ?_ <;> intro hc) | (with_reducible refine guardX_split ?_ ?_ <;> intro hc) | (with_reducible refine plainF_at (by omega) (fun x hx => ?_) <;> have hm := List.mem_of_getElem? hx) | simp (disch := first | assumption | omega) only [wrap_id])
    all_goals first
      | omega
      | (refine post_pan ?_ (fun id' e1 e2 => ?_)
         · clear ih; grind [okE, Exp.size, sizeL, Exp.depth, depthL, Exp.formed]
         · simp only [get_put, not_is e1, e2, Bool.false_eq_true, if_false])
      | (refine post_ret ?_ ?_ (fun id' e1 e2 => ?_)
         · clear ih; grind [okE, Exp.size, sizeL, Exp.depth, depthL, Exp.formed]
         · simp [get_put, is_self, Exp.size, sizeL]
         · simp only [get_put, not_is e1, e2, Bool.false_eq_true, if_false])
  · repeat' (first | simp only [go_sem, ↓reduceIte, Nat.reduceEqDiff, Nat.reduceAdd, Nat.reduceSub, Nat.reduceBEq, Nat.reduceLeDiff, Nat.reduceLT, reduceCtorEq, Int.reduceEq, Int.reduceLT, Int.reduceLE, Int.reduceNeg, Int.reduceToNat, Int.cast_ofNat_Int, *] | (with_reducible refine condP_dec ?_ ?_ <;> intro hc) | (with_reducible refine guardP_dec ?_ ?_ <;> intro hc) | (with_reducible refine condP_split ?_ ?_ <;> intro hc) | (with_reducible refine guardP_split ?_ ?_ <;> intro hc) | (with_reducible refine plainP_at (by omega) (fun x hx => ?_) <;> have hm := List.mem_of_getElem? hx) | (with_reducible refine pureP_wantD ?_ ?_ <;> intro hc) | (with_reducible refine pureP_want ?_ ?_ <;> intro hc) | (with_reducible refine guardX_dec ?_ ?_ <;> intro hc) | (with_reducible refine guardX_split ?_ ?_ <;> intro hc) | (with_reducible refine plainF_at (by omega) (fun x hx => ?_) <;> have hm := List.mem_of_getElem? hx) | simp (disch := first | assumption | omega) only [wrap_id])
    all_goals first
      | omega
      | (refine post_pan ?_ (fun id' e1 e2 => ?_)
         · clear ih; grind [okE, Exp.size, sizeL, Exp.depth, depthL, Exp.formed]
         · simp only [get_put, not_is e1, e2, Bool.false_eq_true, if_false])
      | (refine post_ret ?_ ?_ (fun id' e1 e2 => ?_)
         · clear ih; grind [okE, Exp.size, sizeL, Exp.depth, depthL, Exp.formed]
         · simp [get_put, is_self, Exp.size, sizeL]
         · simp only [get_put, not_is e1, e2, Bool.false_eq_true, if_false])
  · have iha := Later.mk (ih.out a (by simp))
    have ihb := Later.mk (ih.out b (by simp))
    clear ih
    have sa := size_pos a
    have sb := size_pos b
    repeat' (first | simp only [go_sem, ↓reduceIte, Nat.reduceEqDiff, Nat.reduceAdd, Nat.reduceSub, Nat.reduceBEq, Nat.reduceLeDiff, Nat.reduceLT, reduceCtorEq, Int.reduceEq, Int.reduceLT, Int.reduceLE, Int.reduceNeg, Int.reduceToNat, Int.cast_ofNat_Int, *] | (with_reducible refine condP_dec ?_ ?_ <;> intro hc) | (with_reducible refine guardP_dec ?_ ?_ <;> intro hc) | (with_reducible refine condP_split ?_ ?_ <;> intro hc) | (with_reducible refine guardP_split ?_ ?_ <;> intro hc) | (with_reducible refine plainP_at (by omega) (fun x hx => ?_) <;> have hm := List.mem_of_getElem? hx) | (with_reducible refine pureP_wantD ?_ ?_ <;> intro hc) | (with_reducible refine pureP_want ?_ ?_ <;> intro hc) | (with_reducible refine guardX_dec ?_ ?_ <;> intro hc) | (with_reducible refine guardX_split ?_ ?_ <;> intro hc) | (with_reducible refine plainF_at (by omega) (fun x hx => ?_) <;> have hm := List.mem_of_getElem? hx) | simp (disch := first | assumption | omega) only [wrap_id])
    all_goals try
      (refine post_pan ?_ (fun id' e1 e2 => ?_)
       · clear iha ihb; grind [okE, Exp.size, sizeL, Exp.depth, depthL, Exp.formed]
       · simp only [get_put, not_is e1, e2, Bool.false_eq_true, if_false])
    all_goals
      refine rawP_post (iha.out size (depth + 1) (left - 1) _ _ id ?_ ?_ ?_ ?_ ?_ ?_) (fun o1 g1 p1 => ?_)
      · simp only [get_put, is_self, if_true]
      · exact u3 _
      · omega
      · omega
      · omega
      · omega
      have f1 := p1.frame
      by_cases ka : okE a size (depth + 1) (left - 1)
      · obtain ⟨rfl, r1⟩ := p1.ret ka
        clear p1
        repeat' (first | simp only [go_sem, ↓reduceIte, Nat.reduceEqDiff, Nat.reduceAdd, Nat.reduceSub, Nat.reduceBEq, Nat.reduceLeDiff, Nat.reduceLT, reduceCtorEq, Int.reduceEq, Int.reduceLT, Int.reduceLE, Int.reduceNeg, Int.reduceToNat, Int.cast_ofNat_Int, *] | (with_reducible refine condP_dec ?_ ?_ <;> intro hc) | (with_reducible refine guardP_dec ?_ ?_ <;> intro hc) | (with_reducible refine condP_split ?_ ?_ <;> intro hc) | (with_reducible refine guardP_split ?_ ?_ <;> intro hc) | (with_reducible refine plainP_at (by omega) (fun x hx => ?_) <;> have hm := List.mem_of_getElem? hx) | (with_reducible refine pureP_wantD ?_ ?_ <;> intro hc) | (with_reducible refine pureP_want ?_ ?_ <;> intro hc) | (with_reducible refine guardX_dec ?_ ?_ <;> intro hc) | (with_reducible refine guardX_split ?_ ?_ <;> intro hc) | (with_reducible refine plainF_at (by omega) (fun x hx => ?_) <;> have hm := List.mem_of_getElem? hx) | simp (disch := first | assumption | omega) only [wrap_id])
        refine rawP_post (ihb.out size (depth + 1) (left - 1 - a.size) _ _ id ?_ ?_ ?_ ?_ ?_ ?_) (fun o2 g2 p2 => ?_)
        · simp only [go_sem, ↓reduceIte, Nat.reduceEqDiff, Nat.reduceAdd, Nat.reduceSub, Nat.reduceBEq, Nat.reduceLeDiff, Nat.reduceLT, reduceCtorEq, Int.reduceEq, Int.reduceLT, Int.reduceLE, Int.reduceNeg, Int.reduceToNat, Int.cast_ofNat_Int, u3, r1]
        · exact u3 _
        · grind [okE]
        · omega
        · omega
        · omega
        have f2 := p2.frame
        have fr : ∀ k id', Id.under π id' = false → Id.is id id' = false → (gc (k :: π) g2).get id' = h.get id' := fun k id' e1 e2 => by
          rw [get_gc _ _ _ (under_ext e1 k), f2 id' (under_ext e1 _) e2, get_gc _ _ _ (under_ext e1 _), f1 id' (under_ext e1 _) e2]
          simp only [get_put, not_is e1, e2, Bool.false_eq_true, if_false]
        by_cases kb : okE b size (depth + 1) (left - 1 - a.size)
        · obtain ⟨rfl, r2⟩ := p2.ret kb
          clear p2 f1 f2
          repeat' (first | simp only [go_sem, ↓reduceIte, Nat.reduceEqDiff, Nat.reduceAdd, Nat.reduceSub, Nat.reduceBEq, Nat.reduceLeDiff, Nat.reduceLT, reduceCtorEq, Int.reduceEq, Int.reduceLT, Int.reduceLE, Int.reduceNeg, Int.reduceToNat, Int.cast_ofNat_Int, *] | (with_reducible refine condP_dec ?_ ?_ <;> intro hc) | (with_reducible refine guardP_dec ?_ ?_ <;> intro hc) | (with_reducible refine condP_split ?_ ?_ <;> intro hc) | (with_reducible refine guardP_split ?_ ?_ <;> intro hc) | (with_reducible refine plainP_at (by omega) (fun x hx => ?_) <;> have hm := List.mem_of_getElem? hx) | (with_reducible refine pureP_wantD ?_ ?_ <;> intro hc) | (with_reducible refine pureP_want ?_ ?_ <;> intro hc) | (with_reducible refine guardX_dec ?_ ?_ <;> intro hc) | (with_reducible refine guardX_split ?_ ?_ <;> intro hc) | (with_reducible refine plainF_at (by omega) (fun x hx => ?_) <;> have hm := List.mem_of_getElem? hx) | simp (disch := first | assumption | omega) only [wrap_id])
          refine post_ret ?_ ?_ (fr _)
          · clear iha ihb fr; grind [okE, Exp.size, sizeL, Exp.depth, depthL, Exp.formed]
          · rw [get_gc _ _ _ (u3 _), r2]
            simp [Exp.size, sizeL]
            omega
        · obtain rfl := p2.pan kb
          clear p2 f1 f2
          repeat' (first | simp only [go_sem, ↓reduceIte, Nat.reduceEqDiff, Nat.reduceAdd, Nat.reduceSub, Nat.reduceBEq, Nat.reduceLeDiff, Nat.reduceLT, reduceCtorEq, Int.reduceEq, Int.reduceLT, Int.reduceLE, Int.reduceNeg, Int.reduceToNat, Int.cast_ofNat_Int, *] | (with_reducible refine condP_dec ?_ ?_ <;> intro hc) | (with_reducible refine guardP_dec ?_ ?_ <;> intro hc) | (with_reducible refine condP_split ?_ ?_ <;> intro hc) | (with_reducible refine guardP_split ?_ ?_ <;> intro hc) | (with_reducible refine plainP_at (by omega) (fun x hx => ?_) <;> have hm := List.mem_of_getElem? hx) | (with_reducible refine pureP_wantD ?_ ?_ <;> intro hc) | (with_reducible refine pureP_want ?_ ?_ <;> intro hc) | (with_reducible refine guardX_dec ?_ ?_ <;> intro hc) | (with_reducible refine guardX_split ?_ ?_ <;> intro hc) | (with_reducible refine plainF_at (by omega) (fun x hx => ?_) <;> have hm := List.mem_of_getElem? hx) | simp (disch := first | assumption | omega) only [wrap_id])
          refine post_pan ?_ (fr _)
          clear iha ihb fr; grind [okE, Exp.size, sizeL, Exp.depth, depthL, Exp.formed]
      · obtain rfl := p1.pan ka
        clear p1
        repeat' (first | simp only [go_sem, ↓reduceIte, Nat.reduceEqDiff, Nat.reduceAdd, Nat.reduceSub, Nat.reduceBEq, Nat.reduceLeDiff, Nat.reduceLT, reduceCtorEq, Int.reduceEq, Int.reduceLT, Int.reduceLE, Int.reduceNeg, Int.reduceToNat, Int.cast_ofNat_Int, *] | (with_reducible refine condP_dec ?_ ?_ <;> intro hc) | (with_reducible refine guardP_dec ?_ ?_ <;> intro hc) | (with_reducible refine condP_split ?_ ?_ <;> intro hc) | (with_reducible refine guardP_split ?_ ?_ <;> intro hc) | (with_reducible refine plainP_at (by omega) (fun x hx => ?_) <;> have hm := List.mem_of_getElem? hx) | (with_reducible refine pureP_wantD ?_ ?_ <;> intro hc) | (with_reducible refine pureP_want ?_ ?_ <;> intro hc) | (with_reducible refine guardX_dec ?_ ?_ <;> intro hc) | (with_reducible refine guardX_split ?_ ?_ <;> intro hc) | (with_reducible refine plainF_at (by omega) (fun x hx => ?_) <;> have hm := List.mem_of_getElem? hx) | simp (disch := first | assumption | omega) only [wrap_id])
        refine post_pan ?_ (fun id' e1 e2 => ?_)
        · clear iha ihb; grind [okE, Exp.size, sizeL, Exp.depth, depthL, Exp.formed]
        · rw [get_gc _ _ _ (under_ext e1 _), f1 id' (under_ext e1 _) e2]
          simp only [get_put, not_is e1, e2, Bool.false_eq_true, if_false]
  · repeat' (first | simp only [go_sem, ↓reduceIte, Nat.reduceEqDiff, Nat.reduceAdd, Nat.reduceSub, Nat.reduceBEq, Nat.reduceLeDiff, Nat.reduceLT, reduceCtorEq, Int.reduceEq, Int.reduceLT, Int.reduceLE, Int.reduceNeg, Int.reduceToNat, Int.cast_ofNat_Int, *] | (with_reducible refine condP_dec ?_ ?_ <;> intro hc) | (with_reducible refine guardP_dec ?_ ?_ <;> intro hc) | (with_reducible refine condP_split ?_ ?_ <;> intro hc) | (with_reducible refine guardP_split ?_ ?_ <;> intro hc) | (with_reducible refine plainP_at (by omega) (fun x hx => ?_) <;> have hm := List.mem_of_getElem? hx) | (with_reducible refine pureP_wantD ?_ ?_ <;> intro hc) | (with_reducible refine pureP_want ?_ ?_ <;> intro hc) | (with_reducible refine guardX_dec ?_ ?_ <;> intro hc) | (with_reducible refine guardX_split ?_ ?_ <;> intro hc) | (with_reducible refine plainF_at (by omega) (fun x hx => ?_) <;> have hm := List.mem_of_getElem? hx) | simp (disch := first | assumption | omega) only [wrap_id])
    all_goals first
      | omega
      | (refine post_pan ?_ (fun id' e1 e2 => ?_)
         · clear ih; grind [okE, Exp.size, sizeL, Exp.depth, depthL, Exp.formed]
         · simp only [get_put, not_is e1, e2, Bool.false_eq_true, if_false])
      | (refine post_ret ?_ ?_ (fun id' e1 e2 => ?_)
         · clear ih; grind [okE, Exp.size, sizeL, Exp.depth, depthL, Exp.formed]
         · simp [get_put, is_self, Exp.size, sizeL]
         · simp only [get_put, not_is e1, e2, Bool.false_eq_true, if_false])
end Go.Proofs
end
