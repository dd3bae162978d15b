/-
  Parts: SolKnown.
-/
import Derived.KernelRfl
import Derived.Test.YtbinfhpngacfgaaGreatCk7
import Derived.Test.YtbinfhpngacfgaaGreatCk10
import Derived.Test.YtbinfhpngacfgaaGreatCk14
set_option linter.all false
set_option linter.unusedSimpArgs false
set_option linter.unusedVariables false
namespace Go.Proofs
open Go Go.Abs
def kP : AV := .agg [.d (.lst [[.str ⟨#[111, 117, 116]⟩]]), .d (.lst [[.int .i64 4, .int .i64 0, .lst [], .lst [[.int .i64 3]]], [.int .i64 2, .int .i64 0, .lst [[.int .i64 2, .int .i64 4, .lst []]], .lst []], [.int .i64 7, .int .i64 0, .lst [], .lst []], [.int .i64 3, .int .i64 0, .lst [], .lst [[.int .i64 4], [.int .i64 5]]], [.int .i64 2, .int .i64 1, .lst [[.int .i64 1, .int .i64 1, .lst []]], .lst []], [.int .i64 3, .int .i64 0, .lst [], .lst [[.int .i64 6], [.int .i64 7]]], [.int .i64 2, .int .i64 1, .lst [[.int .i64 1, .int .i64 2, .lst []]], .lst []], [.int .i64 3, .int .i64 0, .lst [], .lst [[.int .i64 8], [.int .i64 9]]], [.int .i64 2, .int .i64 2, .lst [], .lst []], [.int .i64 8, .int .i64 3, .lst [], .lst [[.int .i64 10]]], [.int .i64 2, .int .i64 1, .lst [[.int .i64 1, .int .i64 3, .lst []]], .lst []]]), .d (.lst [[.lst [[.int .i64 0, .int .i64 1], [.int .i64 0, .int .i64 0]], .lst [[.int .i64 0, .int .i64 2]], .lst [[.int .i64 0, .lst [[.int .i64 0], [.int .i64 1]], .int .i64 1]]]]), .d (.int .i64 0)]
def kFirst : AV := .tup [.agg [.d (.lst [[.int .i64 (-1), .bool false], [.int .i64 0, .bool false]]), .d (.lst [[.int .i64 0, .int .i64 0, .lst [[.int .i64 2, .int .i64 0], [.int .i64 3, .int .i64 0], [.int .i64 3, .int .i64 1], [.int .i64 4, .int .i64 1]]]]), .d (.lst [[.int .i64 0, .int .i64 0, .int .i64 0, .lst [[.lst [[.int .i64 1, .int .i64 1]]], [.lst [[.int .i64 1, .int .i64 2]]]]], [.int .i64 0, .int .i64 1, .int .i64 0, .lst [[.lst []]]]]), .d (.lst [[.int .i64 1, .int .i64 2, .lst [[.int .i64 2, .int .i64 0], [.int .i64 3, .int .i64 0], [.int .i64 3, .int .i64 1], [.int .i64 4, .int .i64 1]]], [.int .i64 0, .int .i64 9, .lst [[.int .i64 2, .int .i64 0], [.int .i64 3, .int .i64 0], [.int .i64 3, .int .i64 1], [.int .i64 4, .int .i64 1]]]])], .d (.lst []), .d (.int .i64 0)]
def kS : AV := .agg [.d (.lst [[.int .i64 (-1), .bool false], [.int .i64 0, .bool false]]), .d (.lst [[.int .i64 0, .int .i64 0, .lst [[.int .i64 2, .int .i64 0], [.int .i64 3, .int .i64 0], [.int .i64 3, .int .i64 1], [.int .i64 4, .int .i64 1]]]]), .d (.lst [[.int .i64 0, .int .i64 0, .int .i64 0, .lst [[.lst [[.int .i64 1, .int .i64 1]]], [.lst [[.int .i64 1, .int .i64 2]]]]], [.int .i64 0, .int .i64 1, .int .i64 0, .lst [[.lst []]]]]), .d (.lst [[.int .i64 1, .int .i64 2, .lst [[.int .i64 2, .int .i64 0], [.int .i64 3, .int .i64 0], [.int .i64 3, .int .i64 1], [.int .i64 4, .int .i64 1]]], [.int .i64 0, .int .i64 9, .lst [[.int .i64 2, .int .i64 0], [.int .i64 3, .int .i64 0], [.int .i64 3, .int .i64 1], [.int .i64 4, .int .i64 1]]]])]
def kCount : AV := .tup [.d (.int .i64 3), .d (.int .i64 0)]
def kNth2 : AV := .tup [.agg [.d (.int .i64 (-1)), .d (.int .i64 0), .d (.int .i64 0), .d (.lst [[.int .i64 1], [.int .i64 0]])], .d (.int .i64 0)]
def kX : AV := .agg [.d (.int .i64 (-1)), .d (.int .i64 0), .d (.int .i64 0), .d (.lst [[.int .i64 1], [.int .i64 0]])]
def kNth3 : AV := .tup [.agg [.d (.int .i64 0), .d (.int .i64 0), .d (.int .i64 0), .d (.lst [])], .d (.int .i64 5)]
def kDo : AV := .tup [.agg [.d (.lst [[.int .i64 (-1), .bool false], [.int .i64 0, .bool false]]), .d (.lst [[.int .i64 0, .int .i64 0, .lst [[.int .i64 2, .int .i64 0], [.int .i64 3, .int .i64 0], [.int .i64 3, .int .i64 1], [.int .i64 4, .int .i64 1]]]]), .d (.lst [[.int .i64 0, .int .i64 0, .int .i64 0, .lst [[.lst [[.int .i64 1, .int .i64 1]]]]], [.int .i64 0, .int .i64 1, .int .i64 0, .lst []]]), .d (.lst [[.int .i64 1, .int .i64 2, .lst [[.int .i64 2, .int .i64 0], [.int .i64 3, .int .i64 0], [.int .i64 3, .int .i64 1], [.int .i64 4, .int .i64 1]]], [.int .i64 0, .int .i64 9, .lst [[.int .i64 2, .int .i64 0], [.int .i64 3, .int .i64 0], [.int .i64 3, .int .i64 1], [.int .i64 4, .int .i64 1]]]])], .d (.lst [[.int .i64 1, .int .i64 0, .int .i64 0, .int .i64 0, .lst [[.int .i64 1, .int .i64 2]]], [.int .i64 5, .int .i64 0, .int .i64 0, .int .i64 0, .lst [[.int .i64 1, .int .i64 2]]]]), .d (.int .i64 0)]
def kWithin : AV := .tup [.d (.lst [[.int .i64 0], [.int .i64 1]]), .d (.int .i64 0)]
def kRun : AV := .tup [.agg [.d (.lst [[.int .i64 (-1), .bool false], [.int .i64 0, .bool true]]), .d (.lst [[.int .i64 0, .int .i64 0, .lst [[.int .i64 2, .int .i64 0], [.int .i64 3, .int .i64 0], [.int .i64 3, .int .i64 1], [.int .i64 4, .int .i64 1]]]]), .d (.lst [[.int .i64 0, .int .i64 0, .int .i64 0, .lst [[.lst [[.int .i64 1, .int .i64 1]]], [.lst [[.int .i64 1, .int .i64 2]]], [.lst [[.int .i64 1, .int .i64 3]]]]], [.int .i64 0, .int .i64 1, .int .i64 0, .lst [[.lst []]]]]), .d (.lst [])], .d (.lst [[.int .i64 3, .int .i64 1, .int .i64 0, .int .i64 0, .lst []], [.int .i64 4, .int .i64 0, .int .i64 1, .int .i64 0, .lst []]]), .d (.int .i64 0)]
theorem kP_kl : KL Tryz.prog cfg (.fn 53) [] [] [] false none = .ok (.ret kP, []) := KL_run Tab.known_nil 400 60 (by kernel_rfl)
theorem kFirst_kl : KL Tryz.prog cfg (.fn 31) [kP] [] [] false none = .ok (.ret kFirst, []) := KL_run Tab.known_nil 400 60 (by kernel_rfl)
theorem kCount_kl : KL Tryz.prog cfg (.fn 15) [kP, kS] [] [] false none = .ok (.ret kCount, []) := KL_run Tab.known_nil 400 60 (by kernel_rfl)
theorem kNth2_kl : KL Tryz.prog cfg (.fn 17) [kP, kS, .d (.int .i64 2)] [] [] false none = .ok (.ret kNth2, []) := KL_run Tab.known_nil 400 60 (by kernel_rfl)
theorem kNth3_kl : KL Tryz.prog cfg (.fn 17) [kP, kS, .d (.int .i64 3)] [] [] false none = .ok (.ret kNth3, []) := KL_run Tab.known_nil 400 60 (by kernel_rfl)
theorem kDo_kl : KL Tryz.prog cfg (.fn 21) [kP, kS, kX] [] [] false none = .ok (.ret kDo, []) := KL_run Tab.known_nil 400 60 (by kernel_rfl)
theorem kWithin_kl : KL Tryz.prog cfg (.fn 27) [kS, .d (.int .i64 0)] [] [] false none = .ok (.ret kWithin, []) := KL_run Tab.known_nil 400 60 (by kernel_rfl)
theorem kRun_kl : KL Tryz.prog cfg (.fn 25) [kP, kS, .d (.lst [[.int .i64 0], [.int .i64 0]])] [] [] false none = .ok (.ret kRun, []) := KL_run Tab.known_nil 400 60 (by kernel_rfl)
def kTab : Tab := [(53, [], kP), (31, [kP], kFirst), (15, [kP, kS], kCount), (17, [kP, kS, .d (.int .i64 2)], kNth2), (17, [kP, kS, .d (.int .i64 3)], kNth3), (21, [kP, kS, kX], kDo), (27, [kS, .d (.int .i64 0)], kWithin), (25, [kP, kS, .d (.lst [[.int .i64 0], [.int .i64 0]])], kRun)]
theorem kTab_known : kTab.Known Tryz.prog cfg :=
  (Tab.known_cons kP_kl (Tab.known_cons kFirst_kl (Tab.known_cons kCount_kl (Tab.known_cons kNth2_kl (Tab.known_cons kNth3_kl (Tab.known_cons kDo_kl (Tab.known_cons kWithin_kl (Tab.known_cons kRun_kl Tab.known_nil))))))))
theorem known_kl : KL Tryz.prog cfg (.fn 20) [] [] [] false none = .ok (.ret (.d (.bool true)), []) := KL_run kTab_known 400 60 (by kernel_rfl)
end Go.Proofs
