/-
  Parts of it.
-/
import Derived.KernelRfl
import Derived.Test.YtbinfhpngacfgaaGreatDe7
import Derived.Test.YtbinfhpngacfgaaGreatDe10
import Derived.Test.YtbinfhpngacfgaaGreatDe15
set_option linter.all false
namespace Go.Proofs
open Go Go.Abs
def kP:AV:=.agg [.d (.be [[.str ⟨#[111,117,116]⟩]]),.d (.be [[.int .i64 4,.int .i64 0,.be [],.be [[.int .i64 3]]],[.int .i64 2,.int .i64 0,.be [[.int .i64 2,.int .i64 4,.be []]],.be []],[.int .i64 7,.int .i64 0,.be [],.be []],[.int .i64 3,.int .i64 0,.be [],.be [[.int .i64 4],[.int .i64 5]]],[.int .i64 2,.int .i64 1,.be [[.int .i64 1,.int .i64 1,.be []]],.be []],[.int .i64 3,.int .i64 0,.be [],.be [[.int .i64 6],[.int .i64 7]]],[.int .i64 2,.int .i64 1,.be [[.int .i64 1,.int .i64 2,.be []]],.be []],[.int .i64 3,.int .i64 0,.be [],.be [[.int .i64 8],[.int .i64 9]]],[.int .i64 2,.int .i64 2,.be [],.be []],[.int .i64 8,.int .i64 3,.be [],.be [[.int .i64 10]]],[.int .i64 2,.int .i64 1,.be [[.int .i64 1,.int .i64 3,.be []]],.be []]]),.d (.be [[.be [[.int .i64 0,.int .i64 1],[.int .i64 0,.int .i64 0]],.be [[.int .i64 0,.int .i64 2]],.be [[.int .i64 0,.be [[.int .i64 0],[.int .i64 1]],.int .i64 1]]]]),.d (.int .i64 0)]
def tM:AV:=.ge [.agg [.d (.be [[.int .i64 (-1),.bool false],[.int .i64 0,.bool false]]),.d (.be [[.int .i64 0,.int .i64 0,.be [[.int .i64 2,.int .i64 0],[.int .i64 3,.int .i64 0],[.int .i64 3,.int .i64 1],[.int .i64 4,.int .i64 1]]]]),.d (.be [[.int .i64 0,.int .i64 0,.int .i64 0,.be [[.be [[.int .i64 1,.int .i64 1]]],[.be [[.int .i64 1,.int .i64 2]]]]],[.int .i64 0,.int .i64 1,.int .i64 0,.be [[.be []]]]]),.d (.be [[.int .i64 1,.int .i64 2,.be [[.int .i64 2,.int .i64 0],[.int .i64 3,.int .i64 0],[.int .i64 3,.int .i64 1],[.int .i64 4,.int .i64 1]]],[.int .i64 0,.int .i64 9,.be [[.int .i64 2,.int .i64 0],[.int .i64 3,.int .i64 0],[.int .i64 3,.int .i64 1],[.int .i64 4,.int .i64 1]]]])],.d (.be []),.d (.int .i64 0)]
def kS:AV:=.agg [.d (.be [[.int .i64 (-1),.bool false],[.int .i64 0,.bool false]]),.d (.be [[.int .i64 0,.int .i64 0,.be [[.int .i64 2,.int .i64 0],[.int .i64 3,.int .i64 0],[.int .i64 3,.int .i64 1],[.int .i64 4,.int .i64 1]]]]),.d (.be [[.int .i64 0,.int .i64 0,.int .i64 0,.be [[.be [[.int .i64 1,.int .i64 1]]],[.be [[.int .i64 1,.int .i64 2]]]]],[.int .i64 0,.int .i64 1,.int .i64 0,.be [[.be []]]]]),.d (.be [[.int .i64 1,.int .i64 2,.be [[.int .i64 2,.int .i64 0],[.int .i64 3,.int .i64 0],[.int .i64 3,.int .i64 1],[.int .i64 4,.int .i64 1]]],[.int .i64 0,.int .i64 9,.be [[.int .i64 2,.int .i64 0],[.int .i64 3,.int .i64 0],[.int .i64 3,.int .i64 1],[.int .i64 4,.int .i64 1]]]])]
def tL:AV:=.ge [.d (.int .i64 3),.d (.int .i64 0)]
def ABp:AV:=.ge [.agg [.d (.int .i64 (-1)),.d (.int .i64 0),.d (.int .i64 0),.d (.be [[.int .i64 1],[.int .i64 0]])],.d (.int .i64 0)]
def kX:AV:=.agg [.d (.int .i64 (-1)),.d (.int .i64 0),.d (.int .i64 0),.d (.be [[.int .i64 1],[.int .i64 0]])]
def ABq:AV:=.ge [.agg [.d (.int .i64 0),.d (.int .i64 0),.d (.int .i64 0),.d (.be [])],.d (.int .i64 5)]
def kDo:AV:=.ge [.agg [.d (.be [[.int .i64 (-1),.bool false],[.int .i64 0,.bool false]]),.d (.be [[.int .i64 0,.int .i64 0,.be [[.int .i64 2,.int .i64 0],[.int .i64 3,.int .i64 0],[.int .i64 3,.int .i64 1],[.int .i64 4,.int .i64 1]]]]),.d (.be [[.int .i64 0,.int .i64 0,.int .i64 0,.be [[.be [[.int .i64 1,.int .i64 1]]]]],[.int .i64 0,.int .i64 1,.int .i64 0,.be []]]),.d (.be [[.int .i64 1,.int .i64 2,.be [[.int .i64 2,.int .i64 0],[.int .i64 3,.int .i64 0],[.int .i64 3,.int .i64 1],[.int .i64 4,.int .i64 1]]],[.int .i64 0,.int .i64 9,.be [[.int .i64 2,.int .i64 0],[.int .i64 3,.int .i64 0],[.int .i64 3,.int .i64 1],[.int .i64 4,.int .i64 1]]]])],.d (.be [[.int .i64 1,.int .i64 0,.int .i64 0,.int .i64 0,.be [[.int .i64 1,.int .i64 2]]],[.int .i64 5,.int .i64 0,.int .i64 0,.int .i64 0,.be [[.int .i64 1,.int .i64 2]]]]),.d (.int .i64 0)]
def g8:AV:=.ge [.d (.be [[.int .i64 0],[.int .i64 1]]),.d (.int .i64 0)]
def AEu:AV:=.ge [.agg [.d (.be [[.int .i64 (-1),.bool false],[.int .i64 0,.bool true]]),.d (.be [[.int .i64 0,.int .i64 0,.be [[.int .i64 2,.int .i64 0],[.int .i64 3,.int .i64 0],[.int .i64 3,.int .i64 1],[.int .i64 4,.int .i64 1]]]]),.d (.be [[.int .i64 0,.int .i64 0,.int .i64 0,.be [[.be [[.int .i64 1,.int .i64 1]]],[.be [[.int .i64 1,.int .i64 2]]],[.be [[.int .i64 1,.int .i64 3]]]]],[.int .i64 0,.int .i64 1,.int .i64 0,.be [[.be []]]]]),.d (.be [])],.d (.be [[.int .i64 3,.int .i64 1,.int .i64 0,.int .i64 0,.be []],[.int .i64 4,.int .i64 0,.int .i64 1,.int .i64 0,.be []]]),.d (.int .i64 0)]
theorem AEt:KL Tryz.prog cfg (.fn 53) [] [] [] false none=.ok (.ret kP,[]):=Kb J9.known_nil 400 60 (by kernel_rfl)
theorem lP:KL Tryz.prog cfg (.fn 31) [kP] [] [] false none=.ok (.ret tM,[]):=Kb J9.known_nil 400 60 (by kernel_rfl)
theorem lO:KL Tryz.prog cfg (.fn 15) [kP,kS] [] [] false none=.ok (.ret tL,[]):=Kb J9.known_nil 400 60 (by kernel_rfl)
theorem tN:KL Tryz.prog cfg (.fn 17) [kP,kS,.d (.int .i64 2)] [] [] false none=.ok (.ret ABp,[]):=Kb J9.known_nil 400 60 (by kernel_rfl)
theorem tP:KL Tryz.prog cfg (.fn 17) [kP,kS,.d (.int .i64 3)] [] [] false none=.ok (.ret ABq,[]):=Kb J9.known_nil 400 60 (by kernel_rfl)
theorem ACq:KL Tryz.prog cfg (.fn 21) [kP,kS,kX] [] [] false none=.ok (.ret kDo,[]):=Kb J9.known_nil 400 60 (by kernel_rfl)
theorem cm:KL Tryz.prog cfg (.fn 27) [kS,.d (.int .i64 0)] [] [] false none=.ok (.ret g8,[]):=Kb J9.known_nil 400 60 (by kernel_rfl)
theorem zQ:KL Tryz.prog cfg (.fn 25) [kP,kS,.d (.be [[.int .i64 0],[.int .i64 0]])] [] [] false none=.ok (.ret AEu,[]):=Kb J9.known_nil 400 60 (by kernel_rfl)
def AGA:J9:=[(53,[],kP),(31,[kP],tM),(15,[kP,kS],tL),(17,[kP,kS,.d (.int .i64 2)],ABp),(17,[kP,kS,.d (.int .i64 3)],ABq),(21,[kP,kS,kX],kDo),(27,[kS,.d (.int .i64 0)],g8),(25,[kP,kS,.d (.be [[.int .i64 0],[.int .i64 0]])],AEu)]
theorem ck:AGA.Known Tryz.prog cfg:=
 (J9.known_cons AEt (J9.known_cons lP (J9.known_cons lO (J9.known_cons tN (J9.known_cons tP (J9.known_cons ACq (J9.known_cons cm (J9.known_cons zQ J9.known_nil))))))))
theorem tS:KL Tryz.prog cfg (.fn 20) [] [] [] false none=.ok (.ret (.d (.bool true)),[]):=Kb ck 400 60 (by kernel_rfl)
end Go.Proofs
