/-
  NARROWER THAN 'FOR EVERY INPUT', by the rows' own cells (each row's printed sentence says how): SolCounts: loops · SolDoes: loops · SolRuns: loops · SolSplits: loops · SolKeeps: loops · SolDeaths: loops · SolChecks: loops · SolFirsts: loops · SolSteps: loops · SolValues: loops · SolUsed: loops · SolOnces: loops.
  DERIVED. THE GIVEN ROWS OF THIS SEAT. 12 by the template 'for every input the law returns true; each argument reads behind the call as it read before'; 0 by the template 'total and deterministic' (their statements: YtbinfhpngacfgaaGreatTotals.lean).
  GIVEN WITH THE SEED: the statements are not yours to turn. If you find one false, say at which input.
  Laid BY PROGRAM, IN A SANDBOX (cutbox-rows.mjs): the forced cells as the released guide's own fill.sh prints them over the translation dbb218aaa5ed1751… (all of the seat's roots in one cut). By AI agents, Wed Nov 11 2026. No macro, syntax, notation, axiom, sorry.
-/
import Derived.Test.YtbinfhpngacfgaaGreatChecked
import GoSem.Claim
import GoSem.ClaimJoined
import GoSem.ClaimMapViews
import Derived.JoinedTies
import Derived.KernelRfl
namespace Go.Proofs.YtbinfhpngacfgaaGreat
/- THE CELL 'sum', in the pinned program and in every row, IS THE sha256 OF THE DUMP (.gsa) THAT YtbinfhpngacfgaaGreatProg.lean LOADS. Nothing in Lean hashes anything: it is a label: what it is worth is what the hold of that sum in a sandbox is worth. -/
noncomputable def Tryz.pinned : Pinned := { name := "ytbinfhpngacfgaagreat", sum := "dbb218aaa5ed1751981f24d6ba83e7921574ae61428cb998e895e4f285f8ffae", checked := Tryz.checked }
namespace Rows
def none {H : Type} : Left H := { results := [], args := [] }

/-- 'cabotagelaw06.SolCounts': WHATEVER THE INPUT: true; the input reads as it did. -/
def solCountsSpec : ChangeSpec := { name := "solCounts", fn := fun _ => fun
  | [d1, d2, d3] => { results := [.lit (.bool true)], args := [d1, d2, d3] }
  | _ => none }
def solCountsRow : OpenClaim := { program := "ytbinfhpngacfgaagreat", sum := "dbb218aaa5ed1751981f24d6ba83e7921574ae61428cb998e895e4f285f8ffae", func := "cabotage/cabotagelaw06.SolCounts", spec := "solCounts", unfollowed := true, recurses := true, loops := true, apart := false }
def SolCountsSaid : Prop := solCountsRow.holds Tryz.pinned (OpenSpec.ofChange solCountsSpec)

/-- ITS FALSE NEIGHBOUR: 'it returns false'. Refute it at one input. -/
def solCountsWrong : ChangeSpec := { name := "solCounts", fn := fun _ => fun
  | [d1, d2, d3] => { results := [.lit (.bool false)], args := [d1, d2, d3] }
  | _ => none }
def SolCountsWrongFalsely : Prop := solCountsRow.holds Tryz.pinned (OpenSpec.ofChange solCountsWrong)

/-- 'cabotagelaw06.SolDoes': WHATEVER THE INPUT: true; the input reads as it did. -/
def solDoesSpec : ChangeSpec := { name := "solDoes", fn := fun _ => fun
  | [d1, d2, d3] => { results := [.lit (.bool true)], args := [d1, d2, d3] }
  | _ => none }
def solDoesRow : OpenClaim := { program := "ytbinfhpngacfgaagreat", sum := "dbb218aaa5ed1751981f24d6ba83e7921574ae61428cb998e895e4f285f8ffae", func := "cabotage/cabotagelaw06.SolDoes", spec := "solDoes", unfollowed := true, recurses := true, loops := true, apart := false }
def SolDoesSaid : Prop := solDoesRow.holds Tryz.pinned (OpenSpec.ofChange solDoesSpec)

/-- ITS FALSE NEIGHBOUR: 'it returns false'. Refute it at one input. -/
def solDoesWrong : ChangeSpec := { name := "solDoes", fn := fun _ => fun
  | [d1, d2, d3] => { results := [.lit (.bool false)], args := [d1, d2, d3] }
  | _ => none }
def SolDoesWrongFalsely : Prop := solDoesRow.holds Tryz.pinned (OpenSpec.ofChange solDoesWrong)

/-- 'cabotagelaw06.SolRuns': WHATEVER THE INPUT: true; the input reads as it did. -/
def solRunsSpec : ChangeSpec := { name := "solRuns", fn := fun _ => fun
  | [d1, d2, d3] => { results := [.lit (.bool true)], args := [d1, d2, d3] }
  | _ => none }
def solRunsRow : OpenClaim := { program := "ytbinfhpngacfgaagreat", sum := "dbb218aaa5ed1751981f24d6ba83e7921574ae61428cb998e895e4f285f8ffae", func := "cabotage/cabotagelaw06.SolRuns", spec := "solRuns", unfollowed := true, recurses := true, loops := true, apart := false }
def SolRunsSaid : Prop := solRunsRow.holds Tryz.pinned (OpenSpec.ofChange solRunsSpec)

/-- ITS FALSE NEIGHBOUR: 'it returns false'. Refute it at one input. -/
def solRunsWrong : ChangeSpec := { name := "solRuns", fn := fun _ => fun
  | [d1, d2, d3] => { results := [.lit (.bool false)], args := [d1, d2, d3] }
  | _ => none }
def SolRunsWrongFalsely : Prop := solRunsRow.holds Tryz.pinned (OpenSpec.ofChange solRunsWrong)

/-- 'cabotagelaw06.SolSplits': WHATEVER THE INPUT: true; the input reads as it did. -/
def solSplitsSpec : ChangeSpec := { name := "solSplits", fn := fun _ => fun
  | [d1, d2, d3] => { results := [.lit (.bool true)], args := [d1, d2, d3] }
  | _ => none }
def solSplitsRow : OpenClaim := { program := "ytbinfhpngacfgaagreat", sum := "dbb218aaa5ed1751981f24d6ba83e7921574ae61428cb998e895e4f285f8ffae", func := "cabotage/cabotagelaw06.SolSplits", spec := "solSplits", unfollowed := true, recurses := true, loops := true, apart := false }
def SolSplitsSaid : Prop := solSplitsRow.holds Tryz.pinned (OpenSpec.ofChange solSplitsSpec)

/-- ITS FALSE NEIGHBOUR: 'it returns false'. Refute it at one input. -/
def solSplitsWrong : ChangeSpec := { name := "solSplits", fn := fun _ => fun
  | [d1, d2, d3] => { results := [.lit (.bool false)], args := [d1, d2, d3] }
  | _ => none }
def SolSplitsWrongFalsely : Prop := solSplitsRow.holds Tryz.pinned (OpenSpec.ofChange solSplitsWrong)

/-- 'cabotagelaw06.SolKeeps': WHATEVER THE INPUT: true; the input reads as it did. -/
def solKeepsSpec : ChangeSpec := { name := "solKeeps", fn := fun _ => fun
  | [d1, d2] => { results := [.lit (.bool true)], args := [d1, d2] }
  | _ => none }
def solKeepsRow : OpenClaim := { program := "ytbinfhpngacfgaagreat", sum := "dbb218aaa5ed1751981f24d6ba83e7921574ae61428cb998e895e4f285f8ffae", func := "cabotage/cabotagelaw06.SolKeeps", spec := "solKeeps", unfollowed := true, recurses := true, loops := true, apart := false }
def SolKeepsSaid : Prop := solKeepsRow.holds Tryz.pinned (OpenSpec.ofChange solKeepsSpec)

/-- ITS FALSE NEIGHBOUR: 'it returns false'. Refute it at one input. -/
def solKeepsWrong : ChangeSpec := { name := "solKeeps", fn := fun _ => fun
  | [d1, d2] => { results := [.lit (.bool false)], args := [d1, d2] }
  | _ => none }
def SolKeepsWrongFalsely : Prop := solKeepsRow.holds Tryz.pinned (OpenSpec.ofChange solKeepsWrong)

/-- 'cabotagelaw06.SolDeaths': WHATEVER THE INPUT: true; the input reads as it did. -/
def solDeathsSpec : ChangeSpec := { name := "solDeaths", fn := fun _ => fun
  | [d1, d2] => { results := [.lit (.bool true)], args := [d1, d2] }
  | _ => none }
def solDeathsRow : OpenClaim := { program := "ytbinfhpngacfgaagreat", sum := "dbb218aaa5ed1751981f24d6ba83e7921574ae61428cb998e895e4f285f8ffae", func := "cabotage/cabotagelaw06.SolDeaths", spec := "solDeaths", unfollowed := true, recurses := true, loops := true, apart := false }
def SolDeathsSaid : Prop := solDeathsRow.holds Tryz.pinned (OpenSpec.ofChange solDeathsSpec)

/-- ITS FALSE NEIGHBOUR: 'it returns false'. Refute it at one input. -/
def solDeathsWrong : ChangeSpec := { name := "solDeaths", fn := fun _ => fun
  | [d1, d2] => { results := [.lit (.bool false)], args := [d1, d2] }
  | _ => none }
def SolDeathsWrongFalsely : Prop := solDeathsRow.holds Tryz.pinned (OpenSpec.ofChange solDeathsWrong)

/-- 'cabotagelaw06.SolChecks': WHATEVER THE INPUT: true; the input reads as it did. -/
def solChecksSpec : ChangeSpec := { name := "solChecks", fn := fun _ => fun
  | [d1, d2] => { results := [.lit (.bool true)], args := [d1, d2] }
  | _ => none }
def solChecksRow : OpenClaim := { program := "ytbinfhpngacfgaagreat", sum := "dbb218aaa5ed1751981f24d6ba83e7921574ae61428cb998e895e4f285f8ffae", func := "cabotage/cabotagelaw06.SolChecks", spec := "solChecks", unfollowed := true, recurses := true, loops := true, apart := false }
def SolChecksSaid : Prop := solChecksRow.holds Tryz.pinned (OpenSpec.ofChange solChecksSpec)

/-- ITS FALSE NEIGHBOUR: 'it returns false'. Refute it at one input. -/
def solChecksWrong : ChangeSpec := { name := "solChecks", fn := fun _ => fun
  | [d1, d2] => { results := [.lit (.bool false)], args := [d1, d2] }
  | _ => none }
def SolChecksWrongFalsely : Prop := solChecksRow.holds Tryz.pinned (OpenSpec.ofChange solChecksWrong)

/-- 'cabotagelaw06.SolFirsts': WHATEVER THE INPUT: true; the input reads as it did. -/
def solFirstsSpec : ChangeSpec := { name := "solFirsts", fn := fun _ => fun
  | [d] => { results := [.lit (.bool true)], args := [d] }
  | _ => none }
def solFirstsRow : OpenClaim := { program := "ytbinfhpngacfgaagreat", sum := "dbb218aaa5ed1751981f24d6ba83e7921574ae61428cb998e895e4f285f8ffae", func := "cabotage/cabotagelaw06.SolFirsts", spec := "solFirsts", unfollowed := true, recurses := true, loops := true, apart := false }
def SolFirstsSaid : Prop := solFirstsRow.holds Tryz.pinned (OpenSpec.ofChange solFirstsSpec)

/-- ITS FALSE NEIGHBOUR: 'it returns false'. Refute it at one input. -/
def solFirstsWrong : ChangeSpec := { name := "solFirsts", fn := fun _ => fun
  | [d] => { results := [.lit (.bool false)], args := [d] }
  | _ => none }
def SolFirstsWrongFalsely : Prop := solFirstsRow.holds Tryz.pinned (OpenSpec.ofChange solFirstsWrong)

/-- 'cabotagelaw06.SolSteps': WHATEVER THE INPUT: true; the input reads as it did. -/
def solStepsSpec : ChangeSpec := { name := "solSteps", fn := fun _ => fun
  | [d1, d2] => { results := [.lit (.bool true)], args := [d1, d2] }
  | _ => none }
def solStepsRow : OpenClaim := { program := "ytbinfhpngacfgaagreat", sum := "dbb218aaa5ed1751981f24d6ba83e7921574ae61428cb998e895e4f285f8ffae", func := "cabotage/cabotagelaw06.SolSteps", spec := "solSteps", unfollowed := true, recurses := true, loops := true, apart := false }
def SolStepsSaid : Prop := solStepsRow.holds Tryz.pinned (OpenSpec.ofChange solStepsSpec)

/-- ITS FALSE NEIGHBOUR: 'it returns false'. Refute it at one input. -/
def solStepsWrong : ChangeSpec := { name := "solSteps", fn := fun _ => fun
  | [d1, d2] => { results := [.lit (.bool false)], args := [d1, d2] }
  | _ => none }
def SolStepsWrongFalsely : Prop := solStepsRow.holds Tryz.pinned (OpenSpec.ofChange solStepsWrong)

/-- 'cabotagelaw06.SolValues': WHATEVER THE INPUT: true; the input reads as it did. -/
def solValuesSpec : ChangeSpec := { name := "solValues", fn := fun _ => fun
  | [d1, d2] => { results := [.lit (.bool true)], args := [d1, d2] }
  | _ => none }
def solValuesRow : OpenClaim := { program := "ytbinfhpngacfgaagreat", sum := "dbb218aaa5ed1751981f24d6ba83e7921574ae61428cb998e895e4f285f8ffae", func := "cabotage/cabotagelaw06.SolValues", spec := "solValues", unfollowed := true, recurses := true, loops := true, apart := false }
def SolValuesSaid : Prop := solValuesRow.holds Tryz.pinned (OpenSpec.ofChange solValuesSpec)

/-- ITS FALSE NEIGHBOUR: 'it returns false'. Refute it at one input. -/
def solValuesWrong : ChangeSpec := { name := "solValues", fn := fun _ => fun
  | [d1, d2] => { results := [.lit (.bool false)], args := [d1, d2] }
  | _ => none }
def SolValuesWrongFalsely : Prop := solValuesRow.holds Tryz.pinned (OpenSpec.ofChange solValuesWrong)

/-- 'cabotagelaw06.SolUsed': WHATEVER THE INPUT: true; the input reads as it did. -/
def solUsedSpec : ChangeSpec := { name := "solUsed", fn := fun _ => fun
  | [d1, d2, d3] => { results := [.lit (.bool true)], args := [d1, d2, d3] }
  | _ => none }
def solUsedRow : OpenClaim := { program := "ytbinfhpngacfgaagreat", sum := "dbb218aaa5ed1751981f24d6ba83e7921574ae61428cb998e895e4f285f8ffae", func := "cabotage/cabotagelaw06.SolUsed", spec := "solUsed", unfollowed := true, recurses := true, loops := true, apart := false }
def SolUsedSaid : Prop := solUsedRow.holds Tryz.pinned (OpenSpec.ofChange solUsedSpec)

/-- ITS FALSE NEIGHBOUR: 'it returns false'. Refute it at one input. -/
def solUsedWrong : ChangeSpec := { name := "solUsed", fn := fun _ => fun
  | [d1, d2, d3] => { results := [.lit (.bool false)], args := [d1, d2, d3] }
  | _ => none }
def SolUsedWrongFalsely : Prop := solUsedRow.holds Tryz.pinned (OpenSpec.ofChange solUsedWrong)

/-- 'cabotagelaw06.SolOnces': WHATEVER THE INPUT: true; the input reads as it did. -/
def solOncesSpec : ChangeSpec := { name := "solOnces", fn := fun _ => fun
  | [d1, d2, d3] => { results := [.lit (.bool true)], args := [d1, d2, d3] }
  | _ => none }
def solOncesRow : OpenClaim := { program := "ytbinfhpngacfgaagreat", sum := "dbb218aaa5ed1751981f24d6ba83e7921574ae61428cb998e895e4f285f8ffae", func := "cabotage/cabotagelaw06.SolOnces", spec := "solOnces", unfollowed := true, recurses := true, loops := true, apart := false }
def SolOncesSaid : Prop := solOncesRow.holds Tryz.pinned (OpenSpec.ofChange solOncesSpec)

/-- ITS FALSE NEIGHBOUR: 'it returns false'. Refute it at one input. -/
def solOncesWrong : ChangeSpec := { name := "solOnces", fn := fun _ => fun
  | [d1, d2, d3] => { results := [.lit (.bool false)], args := [d1, d2, d3] }
  | _ => none }
def SolOncesWrongFalsely : Prop := solOncesRow.holds Tryz.pinned (OpenSpec.ofChange solOncesWrong)

/- THE SECOND FORM. 'bulk': how many values and letters a reading holds, each counted each time it is reached (what is shared counts as often as it is met; a slice's spare places count too). A statement '..UptoSaid' is the law's where the arguments, and the package variables that the reading takes, are together of bulk at most 1048576: NARROWER than '..Said'. Prove '..Said' where nothing that the law and all that it calls make is longer than what came in: it says more and counts as full. Else prove '..UptoSaid'. A law counts once. -/
mutual
def uptoBulk {H : Type} : DataW H → Nat
  | .lit (.string bytes) => bytes.length + 1
  | .lit _ => 1
  | .nil => 1
  | .ptr d => uptoBulk d + 1
  | .slice elems spare => uptoBulkAll elems + uptoBulkAll spare + 1
  | .agg parts => uptoBulkAll parts + 1
  | .iface _ d => uptoBulk d + 1
  | .map entries => uptoBulkEntries entries + 1
  | .held _ => 1
def uptoBulkAll {H : Type} : List (DataW H) → Nat
  | [] => 0
  | d :: r => uptoBulk d + uptoBulkAll r
def uptoBulkEntries {H : Type} : List (Lit × DataW H) → Nat
  | [] => 0
  | x :: r => uptoBulkEntry x + uptoBulkEntries r
def uptoBulkEntry {H : Type} : Lit × DataW H → Nat
  | (.string bytes, d) => bytes.length + uptoBulk d + 1
  | (_, d) => uptoBulk d + 1
 end
def uptoSmall : (H : Type) → List (DataW H) → Bool := fun _ ds => decide (uptoBulkAll ds ≤ 1048576)
def OpenSpec.upto (s : _root_.Go.ChangeSpec) : _root_.Go.OpenSpec := { _root_.Go.OpenSpec.ofChange s with cond := some uptoSmall }

/-- 'cabotagelaw06.SolCounts', WHERE WHAT IT READS IS OF BULK AT MOST 1048576: true; the input reads as it did. -/
def solCountsUptoRow : OpenClaim := { program := "ytbinfhpngacfgaagreat", sum := "dbb218aaa5ed1751981f24d6ba83e7921574ae61428cb998e895e4f285f8ffae", func := "cabotage/cabotagelaw06.SolCounts", spec := "solCounts", unfollowed := true, recurses := true, loops := true, apart := false, narrowed := true }
def SolCountsUptoSaid : Prop := solCountsUptoRow.holds Tryz.pinned (OpenSpec.upto solCountsSpec)

/-- 'cabotagelaw06.SolDoes', WHERE WHAT IT READS IS OF BULK AT MOST 1048576: true; the input reads as it did. -/
def solDoesUptoRow : OpenClaim := { program := "ytbinfhpngacfgaagreat", sum := "dbb218aaa5ed1751981f24d6ba83e7921574ae61428cb998e895e4f285f8ffae", func := "cabotage/cabotagelaw06.SolDoes", spec := "solDoes", unfollowed := true, recurses := true, loops := true, apart := false, narrowed := true }
def SolDoesUptoSaid : Prop := solDoesUptoRow.holds Tryz.pinned (OpenSpec.upto solDoesSpec)

/-- 'cabotagelaw06.SolRuns', WHERE WHAT IT READS IS OF BULK AT MOST 1048576: true; the input reads as it did. -/
def solRunsUptoRow : OpenClaim := { program := "ytbinfhpngacfgaagreat", sum := "dbb218aaa5ed1751981f24d6ba83e7921574ae61428cb998e895e4f285f8ffae", func := "cabotage/cabotagelaw06.SolRuns", spec := "solRuns", unfollowed := true, recurses := true, loops := true, apart := false, narrowed := true }
def SolRunsUptoSaid : Prop := solRunsUptoRow.holds Tryz.pinned (OpenSpec.upto solRunsSpec)

/-- 'cabotagelaw06.SolSplits', WHERE WHAT IT READS IS OF BULK AT MOST 1048576: true; the input reads as it did. -/
def solSplitsUptoRow : OpenClaim := { program := "ytbinfhpngacfgaagreat", sum := "dbb218aaa5ed1751981f24d6ba83e7921574ae61428cb998e895e4f285f8ffae", func := "cabotage/cabotagelaw06.SolSplits", spec := "solSplits", unfollowed := true, recurses := true, loops := true, apart := false, narrowed := true }
def SolSplitsUptoSaid : Prop := solSplitsUptoRow.holds Tryz.pinned (OpenSpec.upto solSplitsSpec)

/-- 'cabotagelaw06.SolKeeps', WHERE WHAT IT READS IS OF BULK AT MOST 1048576: true; the input reads as it did. -/
def solKeepsUptoRow : OpenClaim := { program := "ytbinfhpngacfgaagreat", sum := "dbb218aaa5ed1751981f24d6ba83e7921574ae61428cb998e895e4f285f8ffae", func := "cabotage/cabotagelaw06.SolKeeps", spec := "solKeeps", unfollowed := true, recurses := true, loops := true, apart := false, narrowed := true }
def SolKeepsUptoSaid : Prop := solKeepsUptoRow.holds Tryz.pinned (OpenSpec.upto solKeepsSpec)

/-- 'cabotagelaw06.SolDeaths', WHERE WHAT IT READS IS OF BULK AT MOST 1048576: true; the input reads as it did. -/
def solDeathsUptoRow : OpenClaim := { program := "ytbinfhpngacfgaagreat", sum := "dbb218aaa5ed1751981f24d6ba83e7921574ae61428cb998e895e4f285f8ffae", func := "cabotage/cabotagelaw06.SolDeaths", spec := "solDeaths", unfollowed := true, recurses := true, loops := true, apart := false, narrowed := true }
def SolDeathsUptoSaid : Prop := solDeathsUptoRow.holds Tryz.pinned (OpenSpec.upto solDeathsSpec)

/-- 'cabotagelaw06.SolChecks', WHERE WHAT IT READS IS OF BULK AT MOST 1048576: true; the input reads as it did. -/
def solChecksUptoRow : OpenClaim := { program := "ytbinfhpngacfgaagreat", sum := "dbb218aaa5ed1751981f24d6ba83e7921574ae61428cb998e895e4f285f8ffae", func := "cabotage/cabotagelaw06.SolChecks", spec := "solChecks", unfollowed := true, recurses := true, loops := true, apart := false, narrowed := true }
def SolChecksUptoSaid : Prop := solChecksUptoRow.holds Tryz.pinned (OpenSpec.upto solChecksSpec)

/-- 'cabotagelaw06.SolFirsts', WHERE WHAT IT READS IS OF BULK AT MOST 1048576: true; the input reads as it did. -/
def solFirstsUptoRow : OpenClaim := { program := "ytbinfhpngacfgaagreat", sum := "dbb218aaa5ed1751981f24d6ba83e7921574ae61428cb998e895e4f285f8ffae", func := "cabotage/cabotagelaw06.SolFirsts", spec := "solFirsts", unfollowed := true, recurses := true, loops := true, apart := false, narrowed := true }
def SolFirstsUptoSaid : Prop := solFirstsUptoRow.holds Tryz.pinned (OpenSpec.upto solFirstsSpec)

/-- 'cabotagelaw06.SolSteps', WHERE WHAT IT READS IS OF BULK AT MOST 1048576: true; the input reads as it did. -/
def solStepsUptoRow : OpenClaim := { program := "ytbinfhpngacfgaagreat", sum := "dbb218aaa5ed1751981f24d6ba83e7921574ae61428cb998e895e4f285f8ffae", func := "cabotage/cabotagelaw06.SolSteps", spec := "solSteps", unfollowed := true, recurses := true, loops := true, apart := false, narrowed := true }
def SolStepsUptoSaid : Prop := solStepsUptoRow.holds Tryz.pinned (OpenSpec.upto solStepsSpec)

/-- 'cabotagelaw06.SolValues', WHERE WHAT IT READS IS OF BULK AT MOST 1048576: true; the input reads as it did. -/
def solValuesUptoRow : OpenClaim := { program := "ytbinfhpngacfgaagreat", sum := "dbb218aaa5ed1751981f24d6ba83e7921574ae61428cb998e895e4f285f8ffae", func := "cabotage/cabotagelaw06.SolValues", spec := "solValues", unfollowed := true, recurses := true, loops := true, apart := false, narrowed := true }
def SolValuesUptoSaid : Prop := solValuesUptoRow.holds Tryz.pinned (OpenSpec.upto solValuesSpec)

/-- 'cabotagelaw06.SolUsed', WHERE WHAT IT READS IS OF BULK AT MOST 1048576: true; the input reads as it did. -/
def solUsedUptoRow : OpenClaim := { program := "ytbinfhpngacfgaagreat", sum := "dbb218aaa5ed1751981f24d6ba83e7921574ae61428cb998e895e4f285f8ffae", func := "cabotage/cabotagelaw06.SolUsed", spec := "solUsed", unfollowed := true, recurses := true, loops := true, apart := false, narrowed := true }
def SolUsedUptoSaid : Prop := solUsedUptoRow.holds Tryz.pinned (OpenSpec.upto solUsedSpec)

/-- 'cabotagelaw06.SolOnces', WHERE WHAT IT READS IS OF BULK AT MOST 1048576: true; the input reads as it did. -/
def solOncesUptoRow : OpenClaim := { program := "ytbinfhpngacfgaagreat", sum := "dbb218aaa5ed1751981f24d6ba83e7921574ae61428cb998e895e4f285f8ffae", func := "cabotage/cabotagelaw06.SolOnces", spec := "solOnces", unfollowed := true, recurses := true, loops := true, apart := false, narrowed := true }
def SolOncesUptoSaid : Prop := solOncesUptoRow.holds Tryz.pinned (OpenSpec.upto solOncesSpec)

end Rows
end Go.Proofs.YtbinfhpngacfgaaGreat
