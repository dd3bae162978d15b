/-
  The function SolValues of the package cabotagelaw06 returns true for each expression and each environment and never panics, whatever its input, with no further condition.
-/
import Derived.Test.YtbinfhpngacfgaaGreatRows
import Derived.Test.YtbinfhpngacfgaaGreatVa9
import Derived.Test.YtbinfhpngacfgaaGreatVa15
set_option linter.all false
set_option linter.unusedSimpArgs false
set_option linter.unusedVariables false
namespace Go.Proofs.YtbinfhpngacfgaaGreat
open Go Go.Abs Go.ChangeShapes Go.WideShapes Go.ChangeAt Go.RowKit
open Go.Proofs
theorem own : ownKnob Tryz.prog.godebug = none := by kernel_rfl
def seatE : List TypeId := [3, 9, 66, 69, 73, 78, 85, 88, 114, 127, 140, 147, 151, 187, 189]
theorem seatE_ok : seatE.all (okT Tryz.prog 8 seatE) = true := by kernel_rfl
theorem laidOut : laidOutB Tryz.prog = true := by kernel_rfl
theorem values_kl (xs : List AV) (h : Args Tryz.prog 8 Tryz.f12.params.toList xs) : KL Tryz.prog cfg (.fn 12) xs [] [] false none = .ok (.ret (.d (.bool true)), []) := by
  obtain ⟨d1, l1, rfl, h1, h⟩ := args_cons (t := 85) h sh85
  obtain ⟨d2, l2, rfl, h2, h⟩ := args_cons (t := 71) h sh71
  obtain rfl := args_nil h
  obtain ⟨x, rfl, _⟩ := reads_exp d1 h1
  obtain ⟨e, rfl, he⟩ := all1 h2
  obtain ⟨env, rfl, _, _⟩ := has_list he sh88 reads_val
  rw [arg_agg agg85, arg_one agg71, encExp_eq]
  exact askN_ret (values_law x env)
set_option maxRecDepth 10000 in
theorem values_lifted (os : Os) (started : os.Started) (H : Type) (enc : TypeId × Value → H) :
    ReturnsInHanded {} Tryz.checked os 12 .any (Rows.solValuesSpec.pre6 enc Tryz.prog Tryz.f12 Rows.solValuesRow.domain false) (Rows.solValuesSpec.post enc Tryz.prog Tryz.f12 false true false false) := by
  refine returnsInHanded_of_change (C := Tryz.checked) own started (by kernel_rfl) Tryz.func12
    (ChangeSpec.witness6 (enc := enc) (C := Tryz.checked) false ⟨#[], Tryz.f12.params.map fun t => ((Tryz.prog.info? t).bind (·.zero)).getD .nilIface, []⟩ 8 (by kernel_rfl) (by kernel_rfl) (by kernel_rfl) (by kernel_rfl)) ?_
  intro W base args ds gs before hval hW _ _
  exact contract_true sol_sound laidOut (t := 4) (n := 8) seatE_ok (by kernel_rfl) rfl (by kernel_rfl) (by kernel_rfl) (fun ds h => by
    obtain ⟨d1, d2, rfl⟩ := two_kids (show ds.length = 2 from h)
    rfl) values_kl W base args ds gs before hval hW
theorem values_holds : Rows.SolValuesSaid :=
  OpenClaim.holds_of_wide 12 Tryz.f12 rfl rfl rfl rfl rfl rfl rfl ⟨rfl, rfl, rfl, rfl, rfl⟩ rfl rfl rfl rfl rfl (by kernel_rfl) Tryz.func12 (by kernel_rfl)
    (of_decide_eq_true (by kernel_rfl)) (by unfold Func.isWrapper; first | (rw [if_pos (by decide +kernel)]; kernel_rfl) | (rw [if_neg (by decide +kernel)]; exact ⟨rfl, rfl⟩))
    (fun os started H enc _ => values_lifted os started H enc)
end Go.Proofs.YtbinfhpngacfgaaGreat
