/-
  Parts: SolOk.
-/
import Derived.KernelRfl
import Derived.Test.YtbinfhpngacfgaaGreatCk6
import Derived.Test.YtbinfhpngacfgaaGreatCk7
import Derived.Test.YtbinfhpngacfgaaGreatCk8
set_option linter.all false
set_option linter.unusedSimpArgs false
set_option linter.unusedVariables false
namespace Go.Proofs
open Go Go.Abs
noncomputable def okB (f : FuncId) : Bool := match Tryz.prog.funcs[f]? with
  | some fn => match fn.body with
    | some c => match codeOk cfg f fn.ntmps c with
      | true => !(fn.name == "runtime.NumGoroutine")
      | false => false
    | none => false
  | none => false
theorem okB_spec {f : FuncId} (h : okB f = true) : FnOk Tryz.prog cfg f := by
  unfold okB at h;split at h
  · rename_i fn hf;split at h
    · rename_i c hc;split at h
      · rename_i hk;exact ⟨fn, c, hf, hc, hk, by simpa using h⟩
      · cases h
    · cases h
  · cases h
def allB (p : Nat → Bool) : Nat → Nat → Bool
  | _, 0 => true
  | a, n + 1 => match p a with
    | true => allB p (a + 1) n
    | false => false
theorem allB_spec {p : Nat → Bool} {n : Nat} : ∀ {a f : Nat}, allB p a n = true → a ≤ f → f < a + n → p f = true := by
  induction n with
  | zero => intro a f _ h1 h2; omega
  | succ n ih =>
    intro a f h h1 h2;unfold allB at h;split at h
    · rename_i hk;by_cases e : f = a
      · rw [e]; exact hk
      · exact ih h (by omega) (by omega)
    · cases h
theorem all2 : allB okB 2 40 = true := by kernel_rfl
theorem all42 : allB okB 42 40 = true := by kernel_rfl
theorem all82 : allB okB 82 40 = true := by kernel_rfl
theorem all122 : allB okB 122 40 = true := by kernel_rfl
theorem all162 : allB okB 162 59 = true := by kernel_rfl
theorem all236 : allB okB 236 5 = true := by kernel_rfl
theorem good_ok (f : FuncId) (h : cfg.good f = true) : FnOk Tryz.prog cfg f := by
  apply okB_spec;simp only [cfg] at h;split at h
  · rename_i h1;split at h
    · rename_i h2;have := Nat.le_of_ble_eq_true h1;have := Nat.le_of_ble_eq_true h2;rcases Nat.lt_or_ge f 42 with c2 | c2
      · exact allB_spec all2 (by omega) (by omega)
      rcases Nat.lt_or_ge f 82 with c42 | c42
      · exact allB_spec all42 (by omega) (by omega)
      rcases Nat.lt_or_ge f 122 with c82 | c82
      · exact allB_spec all82 (by omega) (by omega)
      rcases Nat.lt_or_ge f 162 with c122 | c122
      · exact allB_spec all122 (by omega) (by omega)
      exact allB_spec all162 (by omega) (by omega)
    · simp only [Bool.and_eq_true] at h;have := Nat.le_of_ble_eq_true h.1;have := Nat.le_of_ble_eq_true h.2;exact allB_spec all236 (by omega) (by omega)
  · cases h
theorem meth_ok (t : TypeId) (m : String) (f : FuncId) (h : cfg.meth t m = some f) (v : Value) (w : World) : (method (Tryz.prog.types.size + Made.depth) t v m).run Tryz.prog w = .ok (f, v) w := by
  simp only [cfg] at h;split at h
  · rename_i hm;subst hm;simp only [look1] at h;split at h
    · rename_i ht;cases h;obtain rfl := (Nat.eq_of_beq_eq_true ht).symm
      kernel_rfl
    split at h
    · rename_i ht;cases h;obtain rfl := (Nat.eq_of_beq_eq_true ht).symm
      kernel_rfl
    split at h
    · rename_i ht;cases h;obtain rfl := (Nat.eq_of_beq_eq_true ht).symm
      kernel_rfl
    split at h
    · rename_i ht;cases h;obtain rfl := (Nat.eq_of_beq_eq_true ht).symm
      kernel_rfl
    split at h
    · rename_i ht;cases h;obtain rfl := (Nat.eq_of_beq_eq_true ht).symm
      kernel_rfl
    cases h
  · cases h
theorem cfg_ok : CfgOk Tryz.prog [69] cfg where
  cfg := ⟨by simp only [cfg], meth_ok⟩
  mixed := by kernel_rfl
  caught f t h := by
    simp only [cfg, look1] at h;split at h
    · rename_i hf;cases h;obtain rfl := (Nat.eq_of_beq_eq_true hf).symm;exact caught_sem
    · split at h
      · rename_i hf;cases h;obtain rfl := (Nat.eq_of_beq_eq_true hf).symm;exact caught_sem2
      · cases h
theorem sol_sound : True_ Tryz.prog (WfLp Tryz.prog cfg) (KL Tryz.prog cfg) := KL_sound cfg_ok good_ok
end Go.Proofs
