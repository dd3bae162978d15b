/-
  A part of an interpreter of the program's code that is proved sound, and of what it says of single functions: SolArgs SolLaw12.
-/
import Derived.Test.YtbinfhpngacfgaaGreatVa10
import Derived.Test.YtbinfhpngacfgaaGreatVa11
import Derived.Test.YtbinfhpngacfgaaGreatVa13
import Derived.Test.YtbinfhpngacfgaaGreatVa14
set_option linter.all false
set_option linter.unusedSimpArgs false
set_option linter.unusedVariables false
section
namespace Go.Proofs
open Go Go.Abs
set_option maxRecDepth 100000
set_option linter.unusedSimpArgs false
set_option linter.unusedVariables false
def Reads {α : Type} (ss : List Sh) (enc : α → List Dat) (ok : α → Prop) : Prop := ∀ xs, HasAll Tryz.prog 8 ss xs → ∃ a, xs = enc a ∧ ok a
theorem has_int {k : IntKind} {d : Dat} (h : Has Tryz.prog 8 (.int k) d) : ∃ m, d = .int k m := by cases h; exact ⟨_, rfl⟩
theorem has_bool {d : Dat} (h : Has Tryz.prog 8 .bool d) : ∃ m, d = .bool m := by cases h; exact ⟨_, rfl⟩
theorem has_str {d : Dat} (h : Has Tryz.prog 8 .str d) : ∃ m, d = .str m := by cases h; exact ⟨_, rfl⟩
theorem has_list {α : Type} {enc : α → List Dat} {ok : α → Prop} {t : TypeId} {ss : List Sh} {d : Dat} (h : Has Tryz.prog 8 (.lst t) d) (hs : shapes Tryz.prog 8 t = some ss) (hr : Reads ss enc ok) : ∃ l : List α, d = .lst (l.map enc) ∧ l.length ≤ maxLen ∧ ∀ a ∈ l, ok a := by
  cases h with
  | lst _ ss' es h1 h2 h3 h4 =>
    rw [hs] at h1
    cases h1
    have key : ∀ es : List (List Dat), (∀ e ∈ es, HasAll Tryz.prog 8 ss e) → ∃ l : List α, es = l.map enc ∧ ∀ a ∈ l, ok a := by
      intro es
      induction es with
      | nil => intro _; exact ⟨[], rfl, by simp⟩
      | cons e es ih =>
        intro hk
        obtain ⟨a, rfl, ha⟩ := hr e (hk e (by simp))
        obtain ⟨l, rfl, hl⟩ := ih fun e he => hk e (by simp [he])
        exact ⟨a :: l, rfl, fun b hb => by rcases List.mem_cons.1 hb with rfl | hb; exact ha; exact hl b hb⟩
    obtain ⟨l, rfl, hl⟩ := key es fun e he => ⟨h3 e he, h4 e he⟩
    exact ⟨l, rfl, by simpa using h2, hl⟩
theorem all1 {s : Sh} {xs : List Dat} (h : HasAll Tryz.prog 8 [s] xs) : ∃ a, xs = [a] ∧ Has Tryz.prog 8 s a := by
  obtain ⟨h1, h2⟩ := h
  rcases xs with _ | ⟨a, _ | ⟨b, l⟩⟩ <;> simp at h1
  exact ⟨a, rfl, h2 0 _ _ rfl rfl⟩
theorem all_cons {s : Sh} {ss : List Sh} {xs : List Dat} (h : HasAll Tryz.prog 8 (s :: ss) xs) : ∃ a l, xs = a :: l ∧ Has Tryz.prog 8 s a ∧ HasAll Tryz.prog 8 ss l := by
  obtain ⟨h1, h2⟩ := h
  rcases xs with _ | ⟨a, l⟩
  · simp at h1
  · exact ⟨a, l, rfl, h2 0 _ _ rfl rfl, by simpa using h1, fun i s x e1 e2 => h2 (i + 1) s x (by simpa using e1) (by simpa using e2)⟩
theorem all_nil {xs : List Dat} (h : HasAll Tryz.prog 8 [] xs) : xs = [] := List.eq_nil_of_length_eq_zero (by simpa using h.1)
def lenOk {α : Type} (l : List α) : Prop := l.length ≤ maxLen
theorem sh88 : shapes Tryz.prog 8 88 = some [.int .i64, .int .i64] := by kernel_rfl
theorem sh85 : shapes Tryz.prog 8 85 = some [.int .i64, .int .i64, .lst 85] := by kernel_rfl
theorem reads_val : Reads [.int .i64, .int .i64] encVal fun _ => True := fun xs h => by
  obtain ⟨a, l, rfl, ha, h⟩ := all_cons h
  obtain ⟨b, rfl, hb⟩ := all1 h
  obtain ⟨k, rfl⟩ := has_int ha
  obtain ⟨n, rfl⟩ := has_int hb
  exact ⟨⟨k, n⟩, rfl, trivial⟩
theorem has_exps {s : Sh} {d : Dat} (h : Has Tryz.prog 8 s d) : s = .lst 85 → ∃ l : List Exp, d = .lst (l.map encExp) := by
  induction h with
  | lst t ss es h1 h2 h3 h4 ih =>
    intro e
    cases e
    rw [sh85] at h1
    cases h1
    have key : ∀ es : List (List Dat), (∀ e ∈ es, e.length = 3) → (∀ e ∈ es, ∀ (i : Nat) s x, [Sh.int .i64, .int .i64, .lst 85][i]? = some s → e[i]? = some x → Has Tryz.prog 8 s x) → (∀ e ∈ es, ∀ (i : Nat) s x, [Sh.int .i64, .int .i64, .lst 85][i]? = some s → e[i]? = some x → s = .lst 85 → ∃ l : List Exp, x = .lst (l.map encExp)) → ∃ l : List Exp, es = l.map encExp := by
      intro es
      induction es with
      | nil => intro _ _ _; exact ⟨[], rfl⟩
      | cons e es ih2 =>
        intro k1 k2 k3
        obtain ⟨l, rfl⟩ := ih2 (fun e he => k1 e (by simp [he])) (fun e he => k2 e (by simp [he])) fun e he => k3 e (by simp [he])
        have l3 := k1 e (by simp)
        rcases e with _ | ⟨a, _ | ⟨b, _ | ⟨c, _ | ⟨d, m⟩⟩⟩⟩ <;> simp at l3
        have q0 := k2 [a, b, c] (List.mem_cons_self ..) 0 _ _ rfl rfl
        have q1 := k2 [a, b, c] (List.mem_cons_self ..) 1 _ _ rfl rfl
        have q2 := k3 [a, b, c] (List.mem_cons_self ..) 2 _ _ rfl rfl rfl
        obtain ⟨o, rfl⟩ := has_int q0
        obtain ⟨n, rfl⟩ := has_int q1
        obtain ⟨q, rfl⟩ := q2
        exact ⟨.mk o n q :: l, by simp [encExp_eq, Exp.op, Exp.n, Exp.kids]⟩
    obtain ⟨l, rfl⟩ := key es h3 h4 ih
    exact ⟨l, rfl⟩
  | _ => intro e; cases e
theorem reads_exp : Reads [.int .i64, .int .i64, .lst 85] encExp fun _ => True := fun xs h => by
  obtain ⟨a, l, rfl, ha, h⟩ := all_cons h
  obtain ⟨b, l, rfl, hb, h⟩ := all_cons h
  obtain ⟨c, rfl, hc⟩ := all1 h
  obtain ⟨o, rfl⟩ := has_int ha
  obtain ⟨n, rfl⟩ := has_int hb
  obtain ⟨q, rfl⟩ := has_exps hc rfl
  exact ⟨.mk o n q, by simp [encExp_eq, Exp.op, Exp.n, Exp.kids], trivial⟩
theorem args_cons {t : TypeId} {ts : List TypeId} {xs : List AV} {ss : List Sh} (h : Args Tryz.prog 8 (t :: ts) xs) (hs : shapes Tryz.prog 8 t = some ss) : ∃ ds l, xs = argOf Tryz.prog t ds :: l ∧ HasAll Tryz.prog 8 ss ds ∧ Args Tryz.prog 8 ts l := by
  cases h with
  | cons h1 h2 h3 =>
    rw [hs] at h1
    cases h1
    exact ⟨_, _, rfl, h2, h3⟩
theorem args_nil {xs : List AV} (h : Args Tryz.prog 8 [] xs) : xs = [] := by cases h; rfl
noncomputable def isAggT (t : TypeId) : Bool := match Tryz.prog.underlying t with
  | some (.struct _) => true
  | some (.array _ _) => true
  | _ => false
theorem arg_agg {t : TypeId} {ds : List Dat} (h : isAggT t = true) : argOf Tryz.prog t ds = .agg (ds.map .d) := by
  unfold argOf
  unfold isAggT at h
  split <;> simp_all
theorem arg_one {t : TypeId} {d : Dat} (h : isAggT t = false) : argOf Tryz.prog t [d] = .d d := by
  unfold argOf
  unfold isAggT at h
  split
  · simp_all
  · simp_all
  · rfl
@[go_sem] theorem known_ask : askN (KL Tryz.prog cfg) 20 [] [] = .ok (.ret (.d (.bool true)), []) := by
  unfold askN
  rw [known_kl]
  rfl
end Go.Proofs
end
section
namespace Go.Proofs
open Go Go.Abs
set_option maxRecDepth 100000
set_option maxHeartbeats 2000000
set_option linter.unusedSimpArgs false
set_option linter.unusedVariables false
theorem sh71 : shapes Tryz.prog 8 71 = some [.lst 88] := by kernel_rfl
theorem agg85 : isAggT 85 = true := by kernel_rfl
theorem agg71 : isAggT 71 = false := by kernel_rfl
theorem values_law (x : Exp) (env : List Val) : askN (KL Tryz.prog cfg) 12 [.agg [.d (.int .i64 x.op), .d (.int .i64 x.n), .d (.lst (x.kids.map encExp))], .d (.lst (env.map encVal))] [] = .ok (.ret (.d (.bool true)), []) := by
  (refine KN_wp rfl Tryz.func12 rfl rfl rfl ?_; show Wp _ _ _ _ (Tryz.f12.body.get rfl) _ _; simp only [Tryz.f12, Option.get_some])
  by_cases hc : (60 : Int) < env.length
  · repeat' (first | simp only [go_sem, ↓reduceIte, Nat.reduceEqDiff, Nat.reduceAdd, Nat.reduceSub, Nat.reduceBEq, Nat.reduceLeDiff, Nat.reduceLT, reduceCtorEq, Int.reduceEq, Int.reduceLT, Int.reduceLE, Int.reduceNeg, Int.reduceToNat, Int.cast_ofNat_Int, *] | (with_reducible refine condP_dec ?_ ?_ <;> intro hc) | (with_reducible refine guardP_dec ?_ ?_ <;> intro hc) | (with_reducible refine condP_split ?_ ?_ <;> intro hc) | (with_reducible refine guardP_split ?_ ?_ <;> intro hc) | (with_reducible refine plainP_at (by omega) (fun x hx => ?_) <;> have hm := List.mem_of_getElem? hx) | (with_reducible refine pureP_wantD ?_ ?_ <;> intro hc) | (with_reducible refine pureP_want ?_ ?_ <;> intro hc) | (with_reducible refine guardX_dec ?_ ?_ <;> intro hc) | (with_reducible refine guardX_split ?_ ?_ <;> intro hc) | (with_reducible refine plainF_at (by omega) (fun x hx => ?_) <;> have hm := List.mem_of_getElem? hx) | simp (disch := first | assumption | omega) only [wrap_id])
  · have hl : env.length ≤ 60 := by omega
    repeat' (first | simp only [go_sem, ↓reduceIte, Nat.reduceEqDiff, Nat.reduceAdd, Nat.reduceSub, Nat.reduceBEq, Nat.reduceLeDiff, Nat.reduceLT, reduceCtorEq, Int.reduceEq, Int.reduceLT, Int.reduceLE, Int.reduceNeg, Int.reduceToNat, Int.cast_ofNat_Int, *] | (with_reducible refine condP_dec ?_ ?_ <;> intro hc) | (with_reducible refine guardP_dec ?_ ?_ <;> intro hc) | (with_reducible refine condP_split ?_ ?_ <;> intro hc) | (with_reducible refine guardP_split ?_ ?_ <;> intro hc) | (with_reducible refine plainP_at (by omega) (fun x hx => ?_) <;> have hm := List.mem_of_getElem? hx) | (with_reducible refine pureP_wantD ?_ ?_ <;> intro hc) | (with_reducible refine pureP_want ?_ ?_ <;> intro hc) | (with_reducible refine guardX_dec ?_ ?_ <;> intro hc) | (with_reducible refine guardX_split ?_ ?_ <;> intro hc) | (with_reducible refine plainF_at (by omega) (fun x hx => ?_) <;> have hm := List.mem_of_getElem? hx) | simp (disch := first | assumption | omega) only [wrap_id, Value_kl, ValueR_kl])
end Go.Proofs
end
