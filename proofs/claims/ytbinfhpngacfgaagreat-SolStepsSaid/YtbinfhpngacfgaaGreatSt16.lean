/-
  Parts: SolKnown.
-/
import Derived.KernelRfl
import Derived.Test.YtbinfhpngacfgaaGreatSt7
import Derived.Test.YtbinfhpngacfgaaGreatSt10
import Derived.Test.YtbinfhpngacfgaaGreatSt15
set_option linter.all false
set_option linter.unusedSimpArgs false
set_option linter.unusedVariables false
namespace Go.Proofs
open Go Go.Abs
def kP:AV:=.agg [.d (.lst [[.str ⟨#[111,117,116]⟩]]),.d (.lst [[.int .i64 4,.int .i64 0,.lst [],.lst [[.int .i64 3]]],[.int .i64 2,.int .i64 0,.lst [[.int .i64 2,.int .i64 4,.lst []]],.lst []],[.int .i64 7,.int .i64 0,.lst [],.lst []],[.int .i64 3,.int .i64 0,.lst [],.lst [[.int .i64 4],[.int .i64 5]]],[.int .i64 2,.int .i64 1,.lst [[.int .i64 1,.int .i64 1,.lst []]],.lst []],[.int .i64 3,.int .i64 0,.lst [],.lst [[.int .i64 6],[.int .i64 7]]],[.int .i64 2,.int .i64 1,.lst [[.int .i64 1,.int .i64 2,.lst []]],.lst []],[.int .i64 3,.int .i64 0,.lst [],.lst [[.int .i64 8],[.int .i64 9]]],[.int .i64 2,.int .i64 2,.lst [],.lst []],[.int .i64 8,.int .i64 3,.lst [],.lst [[.int .i64 10]]],[.int .i64 2,.int .i64 1,.lst [[.int .i64 1,.int .i64 3,.lst []]],.lst []]]),.d (.lst [[.lst [[.int .i64 0,.int .i64 1],[.int .i64 0,.int .i64 0]],.lst [[.int .i64 0,.int .i64 2]],.lst [[.int .i64 0,.lst [[.int .i64 0],[.int .i64 1]],.int .i64 1]]]]),.d (.int .i64 0)]
def rM:AV:=.tup [.agg [.d (.lst [[.int .i64 (-1),.bool false],[.int .i64 0,.bool false]]),.d (.lst [[.int .i64 0,.int .i64 0,.lst [[.int .i64 2,.int .i64 0],[.int .i64 3,.int .i64 0],[.int .i64 3,.int .i64 1],[.int .i64 4,.int .i64 1]]]]),.d (.lst [[.int .i64 0,.int .i64 0,.int .i64 0,.lst [[.lst [[.int .i64 1,.int .i64 1]]],[.lst [[.int .i64 1,.int .i64 2]]]]],[.int .i64 0,.int .i64 1,.int .i64 0,.lst [[.lst []]]]]),.d (.lst [[.int .i64 1,.int .i64 2,.lst [[.int .i64 2,.int .i64 0],[.int .i64 3,.int .i64 0],[.int .i64 3,.int .i64 1],[.int .i64 4,.int .i64 1]]],[.int .i64 0,.int .i64 9,.lst [[.int .i64 2,.int .i64 0],[.int .i64 3,.int .i64 0],[.int .i64 3,.int .i64 1],[.int .i64 4,.int .i64 1]]]])],.d (.lst []),.d (.int .i64 0)]
def kS:AV:=.agg [.d (.lst [[.int .i64 (-1),.bool false],[.int .i64 0,.bool false]]),.d (.lst [[.int .i64 0,.int .i64 0,.lst [[.int .i64 2,.int .i64 0],[.int .i64 3,.int .i64 0],[.int .i64 3,.int .i64 1],[.int .i64 4,.int .i64 1]]]]),.d (.lst [[.int .i64 0,.int .i64 0,.int .i64 0,.lst [[.lst [[.int .i64 1,.int .i64 1]]],[.lst [[.int .i64 1,.int .i64 2]]]]],[.int .i64 0,.int .i64 1,.int .i64 0,.lst [[.lst []]]]]),.d (.lst [[.int .i64 1,.int .i64 2,.lst [[.int .i64 2,.int .i64 0],[.int .i64 3,.int .i64 0],[.int .i64 3,.int .i64 1],[.int .i64 4,.int .i64 1]]],[.int .i64 0,.int .i64 9,.lst [[.int .i64 2,.int .i64 0],[.int .i64 3,.int .i64 0],[.int .i64 3,.int .i64 1],[.int .i64 4,.int .i64 1]]]])]
def rL:AV:=.tup [.d (.int .i64 3),.d (.int .i64 0)]
def za:AV:=.tup [.agg [.d (.int .i64 (-1)),.d (.int .i64 0),.d (.int .i64 0),.d (.lst [[.int .i64 1],[.int .i64 0]])],.d (.int .i64 0)]
def kX:AV:=.agg [.d (.int .i64 (-1)),.d (.int .i64 0),.d (.int .i64 0),.d (.lst [[.int .i64 1],[.int .i64 0]])]
def zb:AV:=.tup [.agg [.d (.int .i64 0),.d (.int .i64 0),.d (.int .i64 0),.d (.lst [])],.d (.int .i64 5)]
def kDo:AV:=.tup [.agg [.d (.lst [[.int .i64 (-1),.bool false],[.int .i64 0,.bool false]]),.d (.lst [[.int .i64 0,.int .i64 0,.lst [[.int .i64 2,.int .i64 0],[.int .i64 3,.int .i64 0],[.int .i64 3,.int .i64 1],[.int .i64 4,.int .i64 1]]]]),.d (.lst [[.int .i64 0,.int .i64 0,.int .i64 0,.lst [[.lst [[.int .i64 1,.int .i64 1]]]]],[.int .i64 0,.int .i64 1,.int .i64 0,.lst []]]),.d (.lst [[.int .i64 1,.int .i64 2,.lst [[.int .i64 2,.int .i64 0],[.int .i64 3,.int .i64 0],[.int .i64 3,.int .i64 1],[.int .i64 4,.int .i64 1]]],[.int .i64 0,.int .i64 9,.lst [[.int .i64 2,.int .i64 0],[.int .i64 3,.int .i64 0],[.int .i64 3,.int .i64 1],[.int .i64 4,.int .i64 1]]]])],.d (.lst [[.int .i64 1,.int .i64 0,.int .i64 0,.int .i64 0,.lst [[.int .i64 1,.int .i64 2]]],[.int .i64 5,.int .i64 0,.int .i64 0,.int .i64 0,.lst [[.int .i64 1,.int .i64 2]]]]),.d (.int .i64 0)]
def e9:AV:=.tup [.d (.lst [[.int .i64 0],[.int .i64 1]]),.d (.int .i64 0)]
def ACf:AV:=.tup [.agg [.d (.lst [[.int .i64 (-1),.bool false],[.int .i64 0,.bool true]]),.d (.lst [[.int .i64 0,.int .i64 0,.lst [[.int .i64 2,.int .i64 0],[.int .i64 3,.int .i64 0],[.int .i64 3,.int .i64 1],[.int .i64 4,.int .i64 1]]]]),.d (.lst [[.int .i64 0,.int .i64 0,.int .i64 0,.lst [[.lst [[.int .i64 1,.int .i64 1]]],[.lst [[.int .i64 1,.int .i64 2]]],[.lst [[.int .i64 1,.int .i64 3]]]]],[.int .i64 0,.int .i64 1,.int .i64 0,.lst [[.lst []]]]]),.d (.lst [])],.d (.lst [[.int .i64 3,.int .i64 1,.int .i64 0,.int .i64 0,.lst []],[.int .i64 4,.int .i64 0,.int .i64 1,.int .i64 0,.lst []]]),.d (.int .i64 0)]
theorem ACe:KL Tryz.prog cfg (.fn 53) [] [] [] false none=.ok (.ret kP,[]):=J2 Je.known_nil 400 60 (by kernel_rfl)
theorem jV:KL Tryz.prog cfg (.fn 31) [kP] [] [] false none=.ok (.ret rM,[]):=J2 Je.known_nil 400 60 (by kernel_rfl)
theorem jU:KL Tryz.prog cfg (.fn 15) [kP,kS] [] [] false none=.ok (.ret rL,[]):=J2 Je.known_nil 400 60 (by kernel_rfl)
theorem rN:KL Tryz.prog cfg (.fn 17) [kP,kS,.d (.int .i64 2)] [] [] false none=.ok (.ret za,[]):=J2 Je.known_nil 400 60 (by kernel_rfl)
theorem rP:KL Tryz.prog cfg (.fn 17) [kP,kS,.d (.int .i64 3)] [] [] false none=.ok (.ret zb,[]):=J2 Je.known_nil 400 60 (by kernel_rfl)
theorem AAg:KL Tryz.prog cfg (.fn 21) [kP,kS,kX] [] [] false none=.ok (.ret kDo,[]):=J2 Je.known_nil 400 60 (by kernel_rfl)
theorem bJ:KL Tryz.prog cfg (.fn 27) [kS,.d (.int .i64 0)] [] [] false none=.ok (.ret e9,[]):=J2 Je.known_nil 400 60 (by kernel_rfl)
theorem xE:KL Tryz.prog cfg (.fn 25) [kP,kS,.d (.lst [[.int .i64 0],[.int .i64 0]])] [] [] false none=.ok (.ret ACf,[]):=J2 Je.known_nil 400 60 (by kernel_rfl)
def AD1:Je:=[(53,[],kP),(31,[kP],rM),(15,[kP,kS],rL),(17,[kP,kS,.d (.int .i64 2)],za),(17,[kP,kS,.d (.int .i64 3)],zb),(21,[kP,kS,kX],kDo),(27,[kS,.d (.int .i64 0)],e9),(25,[kP,kS,.d (.lst [[.int .i64 0],[.int .i64 0]])],ACf)]
theorem bH:AD1.Known Tryz.prog cfg:=
 (Je.known_cons ACe (Je.known_cons jV (Je.known_cons jU (Je.known_cons rN (Je.known_cons rP (Je.known_cons AAg (Je.known_cons bJ (Je.known_cons xE Je.known_nil))))))))
theorem rU:KL Tryz.prog cfg (.fn 20) [] [] [] false none=.ok (.ret (.d (.bool true)),[]):=J2 bH 400 60 (by kernel_rfl)
end Go.Proofs
