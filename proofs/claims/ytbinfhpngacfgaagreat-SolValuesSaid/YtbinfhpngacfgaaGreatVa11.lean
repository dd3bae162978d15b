/-
  A part of an interpreter of the program's code that is proved sound, and of what it says of single functions: SolV4.
-/
import Derived.Test.YtbinfhpngacfgaaGreatVa10
set_option linter.all false
set_option linter.unusedSimpArgs false
set_option linter.unusedVariables false
namespace Go.Proofs
open Go Go.Abs
set_option maxRecDepth 100000
set_option maxHeartbeats 2000000
set_option linter.unusedSimpArgs false
set_option linter.unusedVariables false
theorem okE_ok (x : Exp) (size : Int) : okE x size 1 60 ↔ x.ok size = true := by
  simp only [okE, Exp.ok, Bool.and_eq_true, decide_eq_true_eq]
  constructor
  · rintro ⟨h1, h2, h3⟩; exact ⟨by omega, by omega, h3⟩
  · rintro ⟨h1, h2, h3⟩; exact ⟨by omega, by omega, h3⟩
@[go_sem] theorem Value_kl (x : Exp) (env : List Val) (hl : env.length ≤ 60) : askN (KL Tryz.prog cfg) 41 [.agg [.d (.int .i64 x.op), .d (.int .i64 x.n), .d (.lst (x.kids.map encExp))], .d (.lst (env.map encVal))] [] = .ok (.ret (.tup [.agg [.d (.int .i64 (valueS x env).1.kind), .d (.int .i64 (valueS x env).1.n)], .d (.int .i64 (valueS x env).2)]), []) := by
  (refine KN_wp rfl Tryz.func41 rfl rfl rfl ?_; show Wp _ _ _ _ (Tryz.f41.body.get rfl) _ _; simp only [Tryz.f41, Option.get_some])
  repeat' (first | simp only [go_sem, ↓reduceIte, Nat.reduceEqDiff, Nat.reduceAdd, Nat.reduceSub, Nat.reduceBEq, Nat.reduceLeDiff, Nat.reduceLT, reduceCtorEq, Int.reduceEq, Int.reduceLT, Int.reduceLE, Int.reduceNeg, Int.reduceToNat, Int.cast_ofNat_Int, *] | (with_reducible refine condP_dec ?_ ?_ <;> intro hc) | (with_reducible refine guardP_dec ?_ ?_ <;> intro hc) | (with_reducible refine condP_split ?_ ?_ <;> intro hc) | (with_reducible refine guardP_split ?_ ?_ <;> intro hc) | (with_reducible refine plainP_at (by omega) (fun x hx => ?_) <;> have hm := List.mem_of_getElem? hx) | (with_reducible refine pureP_wantD ?_ ?_ <;> intro hc) | (with_reducible refine pureP_want ?_ ?_ <;> intro hc) | (with_reducible refine guardX_dec ?_ ?_ <;> intro hc) | (with_reducible refine guardX_split ?_ ?_ <;> intro hc) | (with_reducible refine plainF_at (by omega) (fun x hx => ?_) <;> have hm := List.mem_of_getElem? hx) | simp (disch := first | assumption | omega) only [wrap_id])
  refine rawP_post (expression_kl x env.length 1 60 _ _ _ ?_ ?_ ?_ ?_ ?_ ?_) (fun o1 g1 p1 => ?_)
  · simp only [go_sem, ↓reduceIte, Nat.reduceEqDiff, Nat.reduceAdd, Nat.reduceSub, Nat.reduceBEq, Nat.reduceLeDiff, Nat.reduceLT, reduceCtorEq, Int.reduceEq, Int.reduceLT, Int.reduceLE, Int.reduceNeg, Int.reduceToNat, Int.cast_ofNat_Int]
  · simp only [go_sem, ↓reduceIte, Nat.reduceEqDiff, Nat.reduceAdd, Nat.reduceSub, Nat.reduceBEq, Nat.reduceLeDiff, Nat.reduceLT, reduceCtorEq, Int.reduceEq, Int.reduceLT, Int.reduceLE, Int.reduceNeg, Int.reduceToNat, Int.cast_ofNat_Int]
  · omega
  · omega
  · omega
  · omega
  have f0 := p1.frame [0, 0] (by simp only [go_sem, ↓reduceIte, Nat.reduceEqDiff, Nat.reduceAdd, Nat.reduceSub, Nat.reduceBEq, Nat.reduceLeDiff, Nat.reduceLT, reduceCtorEq, Int.reduceEq, Int.reduceLT, Int.reduceLE, Int.reduceNeg, Int.reduceToNat, Int.cast_ofNat_Int]) (by simp only [go_sem, ↓reduceIte, Nat.reduceEqDiff, Nat.reduceAdd, Nat.reduceSub, Nat.reduceBEq, Nat.reduceLeDiff, Nat.reduceLT, reduceCtorEq, Int.reduceEq, Int.reduceLT, Int.reduceLE, Int.reduceNeg, Int.reduceToNat, Int.cast_ofNat_Int])
  have f1 := p1.frame [0, 1] (by simp only [go_sem, ↓reduceIte, Nat.reduceEqDiff, Nat.reduceAdd, Nat.reduceSub, Nat.reduceBEq, Nat.reduceLeDiff, Nat.reduceLT, reduceCtorEq, Int.reduceEq, Int.reduceLT, Int.reduceLE, Int.reduceNeg, Int.reduceToNat, Int.cast_ofNat_Int]) (by simp only [go_sem, ↓reduceIte, Nat.reduceEqDiff, Nat.reduceAdd, Nat.reduceSub, Nat.reduceBEq, Nat.reduceLeDiff, Nat.reduceLT, reduceCtorEq, Int.reduceEq, Int.reduceLT, Int.reduceLE, Int.reduceNeg, Int.reduceToNat, Int.cast_ofNat_Int])
  have f2 := p1.frame [0, 2] (by simp only [go_sem, ↓reduceIte, Nat.reduceEqDiff, Nat.reduceAdd, Nat.reduceSub, Nat.reduceBEq, Nat.reduceLeDiff, Nat.reduceLT, reduceCtorEq, Int.reduceEq, Int.reduceLT, Int.reduceLE, Int.reduceNeg, Int.reduceToNat, Int.cast_ofNat_Int]) (by simp only [go_sem, ↓reduceIte, Nat.reduceEqDiff, Nat.reduceAdd, Nat.reduceSub, Nat.reduceBEq, Nat.reduceLeDiff, Nat.reduceLT, reduceCtorEq, Int.reduceEq, Int.reduceLT, Int.reduceLE, Int.reduceNeg, Int.reduceToNat, Int.cast_ofNat_Int])
  simp only [heap_cons, is_cons, is_self, if_true, if_false, Nat.reduceEqDiff, ↓reduceIte, reduceCtorEq, Bool.false_eq_true] at f0 f1 f2
  by_cases ka : okE x env.length 1 60
  · obtain ⟨rfl, r1⟩ := p1.ret ka
    have hxf : x.formed env.length = true := ka.2.2
    rw [okE_ok] at ka
    clear p1
    have e0 : (gc [9] g1).get [0, 0] = _ := (get_gc [9] g1 [0, 0] (by simp only [go_sem, ↓reduceIte, Nat.reduceEqDiff, Nat.reduceAdd, Nat.reduceSub, Nat.reduceBEq, Nat.reduceLeDiff, Nat.reduceLT, reduceCtorEq, Int.reduceEq, Int.reduceLT, Int.reduceLE, Int.reduceNeg, Int.reduceToNat, Int.cast_ofNat_Int])).trans f0
    have e1 : (gc [9] g1).get [0, 1] = _ := (get_gc [9] g1 [0, 1] (by simp only [go_sem, ↓reduceIte, Nat.reduceEqDiff, Nat.reduceAdd, Nat.reduceSub, Nat.reduceBEq, Nat.reduceLeDiff, Nat.reduceLT, reduceCtorEq, Int.reduceEq, Int.reduceLT, Int.reduceLE, Int.reduceNeg, Int.reduceToNat, Int.cast_ofNat_Int])).trans f1
    have e2 : (gc [9] g1).get [0, 2] = _ := (get_gc [9] g1 [0, 2] (by simp only [go_sem, ↓reduceIte, Nat.reduceEqDiff, Nat.reduceAdd, Nat.reduceSub, Nat.reduceBEq, Nat.reduceLeDiff, Nat.reduceLT, reduceCtorEq, Int.reduceEq, Int.reduceLT, Int.reduceLE, Int.reduceNeg, Int.reduceToNat, Int.cast_ofNat_Int])).trans f2
    clear f0 f1 f2 r1
    rw [rawP_ret]
    generalize gc [9] g1 = H at *
    repeat' (first | simp only [go_sem, ↓reduceIte, Nat.reduceEqDiff, Nat.reduceAdd, Nat.reduceSub, Nat.reduceBEq, Nat.reduceLeDiff, Nat.reduceLT, reduceCtorEq, Int.reduceEq, Int.reduceLT, Int.reduceLE, Int.reduceNeg, Int.reduceToNat, Int.cast_ofNat_Int, *] | (with_reducible refine condP_dec ?_ ?_ <;> intro hc) | (with_reducible refine guardP_dec ?_ ?_ <;> intro hc) | (with_reducible refine condP_split ?_ ?_ <;> intro hc) | (with_reducible refine guardP_split ?_ ?_ <;> intro hc) | (with_reducible refine plainP_at (by omega) (fun x hx => ?_) <;> have hm := List.mem_of_getElem? hx) | (with_reducible refine pureP_wantD ?_ ?_ <;> intro hc) | (with_reducible refine pureP_want ?_ ?_ <;> intro hc) | (with_reducible refine guardX_dec ?_ ?_ <;> intro hc) | (with_reducible refine guardX_split ?_ ?_ <;> intro hc) | (with_reducible refine plainF_at (by omega) (fun x hx => ?_) <;> have hm := List.mem_of_getElem? hx) | simp (disch := first | assumption | omega) only [wrap_id])
    refine rounds (S := fun a : Nat × Heap × Nat => ⟨[(1, .d (.lst (env.map encVal))), (2, .ptr [0, 0] 0), (4, .ptr [0, 1] 0), (5, .ptr [0, 2] 0), (13, .d (.lst (env.map encVal))), (14, .d (.int .i64 env.length)), (15, .d (.int .i64 a.1))], a.2.1, a.2.2 + 13, [.call 50 [.ptr [0, 2] 0]]⟩)
      (Inv := fun a => a.1 ≤ env.length ∧ (env.drop a.1).all Val.ok = env.all Val.ok ∧ a.2.1.get [0, 0] = some (.box [.d (.int .i64 x.op), .d (.int .i64 x.n), .d (.lst (x.kids.map encExp))]) ∧ a.2.1.get [0, 1] = some (.box [.d (.int .i64 0), .d (.int .i64 0)]) ∧ a.2.1.get [0, 2] = some (.box [.d (.int .i64 0)])) (m := fun a => env.length - a.1) (a := (0, H, 0)) ⟨by simp, by simp, e0, e1, e2⟩ ?_
    clear e0 e1 e2 H
    rintro ⟨i, H, bs⟩ ⟨h2, h4, e0, e1, e2⟩ IH
    dsimp only at *
    repeat' (first | simp only [go_sem, ↓reduceIte, Nat.reduceEqDiff, Nat.reduceAdd, Nat.reduceSub, Nat.reduceBEq, Nat.reduceLeDiff, Nat.reduceLT, reduceCtorEq, Int.reduceEq, Int.reduceLT, Int.reduceLE, Int.reduceNeg, Int.reduceToNat, Int.cast_ofNat_Int, *] | (with_reducible refine condP_dec ?_ ?_ <;> intro hc) | (with_reducible refine guardP_dec ?_ ?_ <;> intro hc) | (with_reducible refine condP_split ?_ ?_ <;> intro hc) | (with_reducible refine guardP_split ?_ ?_ <;> intro hc) | (with_reducible refine plainP_at (by omega) (fun x hx => ?_) <;> have hm := List.mem_of_getElem? hx) | (with_reducible refine pureP_wantD ?_ ?_ <;> intro hc) | (with_reducible refine pureP_want ?_ ?_ <;> intro hc) | (with_reducible refine guardX_dec ?_ ?_ <;> intro hc) | (with_reducible refine guardX_split ?_ ?_ <;> intro hc) | (with_reducible refine plainF_at (by omega) (fun x hx => ?_) <;> have hm := List.mem_of_getElem? hx) | simp (disch := first | assumption | omega) only [wrap_id, value_kl])
    all_goals first
      | (refine IH.out (i + 1, _, bs + 30) (by dsimp only; omega) ⟨by dsimp only; omega, by dsimp only; rw [← h4, drop_cons hx, List.all_cons]; grind [Val.ok], ?_, ?_, ?_⟩ <;> dsimp only <;> simp only [go_sem, ↓reduceIte, Nat.reduceEqDiff, Nat.reduceAdd, Nat.reduceSub, Nat.reduceBEq, Nat.reduceLeDiff, Nat.reduceLT, reduceCtorEq, Int.reduceEq, Int.reduceLT, Int.reduceLE, Int.reduceNeg, Int.reduceToNat, Int.cast_ofNat_Int, *])
      | (rw [valueS_bad (env := env) _ (by rw [← h4, drop_cons hx, List.all_cons]; grind [Val.ok])])
      | (rw [List.drop_eq_nil_of_le (by omega)] at h4
         simp [valueS, ka, ← h4])
  · obtain rfl := p1.pan ka
    rw [okE_ok] at ka
    have hv : valueS x env = (⟨0, 0⟩, 2) := by simp [valueS, ka]
    clear p1
    have e1 : (gc [9] g1).get [0, 1] = _ := (get_gc [9] g1 [0, 1] (by simp only [go_sem, ↓reduceIte, Nat.reduceEqDiff, Nat.reduceAdd, Nat.reduceSub, Nat.reduceBEq, Nat.reduceLeDiff, Nat.reduceLT, reduceCtorEq, Int.reduceEq, Int.reduceLT, Int.reduceLE, Int.reduceNeg, Int.reduceToNat, Int.cast_ofNat_Int])).trans f1
    have e2 : (gc [9] g1).get [0, 2] = _ := (get_gc [9] g1 [0, 2] (by simp only [go_sem, ↓reduceIte, Nat.reduceEqDiff, Nat.reduceAdd, Nat.reduceSub, Nat.reduceBEq, Nat.reduceLeDiff, Nat.reduceLT, reduceCtorEq, Int.reduceEq, Int.reduceLT, Int.reduceLE, Int.reduceNeg, Int.reduceToNat, Int.cast_ofNat_Int])).trans f2
    clear f0 f1 f2
    rw [rawP_pan]
    generalize gc [9] g1 = H at *
    repeat' (first | simp only [go_sem, ↓reduceIte, Nat.reduceEqDiff, Nat.reduceAdd, Nat.reduceSub, Nat.reduceBEq, Nat.reduceLeDiff, Nat.reduceLT, reduceCtorEq, Int.reduceEq, Int.reduceLT, Int.reduceLE, Int.reduceNeg, Int.reduceToNat, Int.cast_ofNat_Int, *, flawV] | (with_reducible refine condP_dec ?_ ?_ <;> intro hc) | (with_reducible refine guardP_dec ?_ ?_ <;> intro hc) | (with_reducible refine condP_split ?_ ?_ <;> intro hc) | (with_reducible refine guardP_split ?_ ?_ <;> intro hc) | (with_reducible refine plainP_at (by omega) (fun x hx => ?_) <;> have hm := List.mem_of_getElem? hx) | (with_reducible refine pureP_wantD ?_ ?_ <;> intro hc) | (with_reducible refine pureP_want ?_ ?_ <;> intro hc) | (with_reducible refine guardX_dec ?_ ?_ <;> intro hc) | (with_reducible refine guardX_split ?_ ?_ <;> intro hc) | (with_reducible refine plainF_at (by omega) (fun x hx => ?_) <;> have hm := List.mem_of_getElem? hx) | simp (disch := first | assumption | omega) only [wrap_id])
end Go.Proofs
