/-
  Every solution is formed for a program just if the specification says so; for any program and solution.
-/
import Derived.Test.YtbinfhpngacfgaaGreatRows
import Derived.Test.YtbinfhpngacfgaaGreatCk9
import Derived.Test.YtbinfhpngacfgaaGreatCk16
set_option linter.all false
set_option linter.unusedSimpArgs false
set_option linter.unusedVariables false
namespace Go.Proofs.YtbinfhpngacfgaaGreat
open Go Go.Abs Go.ChangeShapes Go.WideShapes Go.ChangeAt Go.RowKit
open Go.Proofs
theorem own : ownKnob Tryz.prog.godebug = none := by kernel_rfl
def seatE : List TypeId := [3, 9, 66, 69, 73, 78, 85, 88, 114, 127, 140, 147, 151, 187, 189]
theorem seatE_ok : seatE.all (okT Tryz.prog 8 seatE) = true := by kernel_rfl
theorem laidOut : laidOutB Tryz.prog = true := by kernel_rfl
theorem checks_kl (xs : List AV) (h : Args Tryz.prog 8 Tryz.f9.params.toList xs) : KL Tryz.prog cfg (.fn 9) xs [] [] false none = .ok (.ret (.d (.bool true)), []) := by
  obtain ⟨d1, l1, rfl, h1, h⟩ := args_cons (t := 26) h sh26;obtain ⟨d2, l2, rfl, h2, h⟩ := args_cons (t := 32) h sh32;obtain rfl := args_nil h;obtain ⟨p, rfl, hp⟩ := reads_prog d1 h1;obtain ⟨s, rfl, _⟩ := reads_sol d2 h2;rw [arg_agg agg26, arg_agg agg32];exact askN_ret (checks_law p s hp)
set_option maxRecDepth 10000 in
theorem checks_lifted (os : Os) (started : os.Started) (H : Type) (enc : TypeId × Value → H) :
    ReturnsInHanded {} Tryz.checked os 9 .any (Rows.solChecksSpec.pre6 enc Tryz.prog Tryz.f9 Rows.solChecksRow.domain false) (Rows.solChecksSpec.post enc Tryz.prog Tryz.f9 false true false false) := by
  refine returnsInHanded_of_change (C := Tryz.checked) own started (by kernel_rfl) Tryz.func9
    (ChangeSpec.witness6 (enc := enc) (C := Tryz.checked) false ⟨#[], Tryz.f9.params.map fun t => ((Tryz.prog.info? t).bind (·.zero)).getD .nilIface, []⟩ 8 (by kernel_rfl) (by kernel_rfl) (by kernel_rfl) (by kernel_rfl)) ?_
  intro W base args ds gs before hval hW _ _;exact contract_true sol_sound laidOut (t := 4) (n := 8) seatE_ok (by kernel_rfl) rfl (by kernel_rfl) (by kernel_rfl) (fun ds h => by
    obtain ⟨d1, d2, rfl⟩ := two_kids (show ds.length = 2 from h);rfl) checks_kl W base args ds gs before hval hW
theorem checks_holds : Rows.SolChecksSaid :=
  OpenClaim.holds_of_wide 9 Tryz.f9 rfl rfl rfl rfl rfl rfl rfl ⟨rfl, rfl, rfl, rfl, rfl⟩ rfl rfl rfl rfl rfl (by kernel_rfl) Tryz.func9 (by kernel_rfl)
    (of_decide_eq_true (by kernel_rfl)) (by unfold Func.isWrapper; first | (rw [if_pos (by decide +kernel)]; kernel_rfl) | (rw [if_neg (by decide +kernel)]; exact ⟨rfl, rfl⟩))
    (fun os started H enc _ => checks_lifted os started H enc)
end Go.Proofs.YtbinfhpngacfgaaGreat
