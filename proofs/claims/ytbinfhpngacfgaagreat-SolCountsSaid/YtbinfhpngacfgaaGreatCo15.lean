/-
  Parts: SolKnown.
-/
import Derived.KernelRfl
import Derived.Test.YtbinfhpngacfgaaGreatCo7
import Derived.Test.YtbinfhpngacfgaaGreatCo10
import Derived.Test.YtbinfhpngacfgaaGreatCo14
set_option linter.all false
set_option linter.unusedSimpArgs false
set_option linter.unusedVariables false
namespace Go.Proofs
open Go Go.Abs
def kP:AV:=.agg [.d (.lst [[.str ⟨#[111,117,116]⟩]]),.d (.lst [[.int .i64 4,.int .i64 0,.lst [],.lst [[.int .i64 3]]],[.int .i64 2,.int .i64 0,.lst [[.int .i64 2,.int .i64 4,.lst []]],.lst []],[.int .i64 7,.int .i64 0,.lst [],.lst []],[.int .i64 3,.int .i64 0,.lst [],.lst [[.int .i64 4],[.int .i64 5]]],[.int .i64 2,.int .i64 1,.lst [[.int .i64 1,.int .i64 1,.lst []]],.lst []],[.int .i64 3,.int .i64 0,.lst [],.lst [[.int .i64 6],[.int .i64 7]]],[.int .i64 2,.int .i64 1,.lst [[.int .i64 1,.int .i64 2,.lst []]],.lst []],[.int .i64 3,.int .i64 0,.lst [],.lst [[.int .i64 8],[.int .i64 9]]],[.int .i64 2,.int .i64 2,.lst [],.lst []],[.int .i64 8,.int .i64 3,.lst [],.lst [[.int .i64 10]]],[.int .i64 2,.int .i64 1,.lst [[.int .i64 1,.int .i64 3,.lst []]],.lst []]]),.d (.lst [[.lst [[.int .i64 0,.int .i64 1],[.int .i64 0,.int .i64 0]],.lst [[.int .i64 0,.int .i64 2]],.lst [[.int .i64 0,.lst [[.int .i64 0],[.int .i64 1]],.int .i64 1]]]]),.d (.int .i64 0)]
def gF:AV:=.tup [.agg [.d (.lst [[.int .i64 (-1),.bool false],[.int .i64 0,.bool false]]),.d (.lst [[.int .i64 0,.int .i64 0,.lst [[.int .i64 2,.int .i64 0],[.int .i64 3,.int .i64 0],[.int .i64 3,.int .i64 1],[.int .i64 4,.int .i64 1]]]]),.d (.lst [[.int .i64 0,.int .i64 0,.int .i64 0,.lst [[.lst [[.int .i64 1,.int .i64 1]]],[.lst [[.int .i64 1,.int .i64 2]]]]],[.int .i64 0,.int .i64 1,.int .i64 0,.lst [[.lst []]]]]),.d (.lst [[.int .i64 1,.int .i64 2,.lst [[.int .i64 2,.int .i64 0],[.int .i64 3,.int .i64 0],[.int .i64 3,.int .i64 1],[.int .i64 4,.int .i64 1]]],[.int .i64 0,.int .i64 9,.lst [[.int .i64 2,.int .i64 0],[.int .i64 3,.int .i64 0],[.int .i64 3,.int .i64 1],[.int .i64 4,.int .i64 1]]]])],.d (.lst []),.d (.int .i64 0)]
def kS:AV:=.agg [.d (.lst [[.int .i64 (-1),.bool false],[.int .i64 0,.bool false]]),.d (.lst [[.int .i64 0,.int .i64 0,.lst [[.int .i64 2,.int .i64 0],[.int .i64 3,.int .i64 0],[.int .i64 3,.int .i64 1],[.int .i64 4,.int .i64 1]]]]),.d (.lst [[.int .i64 0,.int .i64 0,.int .i64 0,.lst [[.lst [[.int .i64 1,.int .i64 1]]],[.lst [[.int .i64 1,.int .i64 2]]]]],[.int .i64 0,.int .i64 1,.int .i64 0,.lst [[.lst []]]]]),.d (.lst [[.int .i64 1,.int .i64 2,.lst [[.int .i64 2,.int .i64 0],[.int .i64 3,.int .i64 0],[.int .i64 3,.int .i64 1],[.int .i64 4,.int .i64 1]]],[.int .i64 0,.int .i64 9,.lst [[.int .i64 2,.int .i64 0],[.int .i64 3,.int .i64 0],[.int .i64 3,.int .i64 1],[.int .i64 4,.int .i64 1]]]])]
def dX:AV:=.tup [.d (.int .i64 3),.d (.int .i64 0)]
def mj:AV:=.tup [.agg [.d (.int .i64 (-1)),.d (.int .i64 0),.d (.int .i64 0),.d (.lst [[.int .i64 1],[.int .i64 0]])],.d (.int .i64 0)]
def kX:AV:=.agg [.d (.int .i64 (-1)),.d (.int .i64 0),.d (.int .i64 0),.d (.lst [[.int .i64 1],[.int .i64 0]])]
def me:AV:=.tup [.agg [.d (.int .i64 0),.d (.int .i64 0),.d (.int .i64 0),.d (.lst [])],.d (.int .i64 5)]
def sj:AV:=.tup [.agg [.d (.lst [[.int .i64 (-1),.bool false],[.int .i64 0,.bool false]]),.d (.lst [[.int .i64 0,.int .i64 0,.lst [[.int .i64 2,.int .i64 0],[.int .i64 3,.int .i64 0],[.int .i64 3,.int .i64 1],[.int .i64 4,.int .i64 1]]]]),.d (.lst [[.int .i64 0,.int .i64 0,.int .i64 0,.lst [[.lst [[.int .i64 1,.int .i64 1]]]]],[.int .i64 0,.int .i64 1,.int .i64 0,.lst []]]),.d (.lst [[.int .i64 1,.int .i64 2,.lst [[.int .i64 2,.int .i64 0],[.int .i64 3,.int .i64 0],[.int .i64 3,.int .i64 1],[.int .i64 4,.int .i64 1]]],[.int .i64 0,.int .i64 9,.lst [[.int .i64 2,.int .i64 0],[.int .i64 3,.int .i64 0],[.int .i64 3,.int .i64 1],[.int .i64 4,.int .i64 1]]]])],.d (.lst [[.int .i64 1,.int .i64 0,.int .i64 0,.int .i64 0,.lst [[.int .i64 1,.int .i64 2]]],[.int .i64 5,.int .i64 0,.int .i64 0,.int .i64 0,.lst [[.int .i64 1,.int .i64 2]]]]),.d (.int .i64 0)]
def Wk:AV:=.tup [.d (.lst [[.int .i64 0],[.int .i64 1]]),.d (.int .i64 0)]
def rH:AV:=.tup [.agg [.d (.lst [[.int .i64 (-1),.bool false],[.int .i64 0,.bool true]]),.d (.lst [[.int .i64 0,.int .i64 0,.lst [[.int .i64 2,.int .i64 0],[.int .i64 3,.int .i64 0],[.int .i64 3,.int .i64 1],[.int .i64 4,.int .i64 1]]]]),.d (.lst [[.int .i64 0,.int .i64 0,.int .i64 0,.lst [[.lst [[.int .i64 1,.int .i64 1]]],[.lst [[.int .i64 1,.int .i64 2]]],[.lst [[.int .i64 1,.int .i64 3]]]]],[.int .i64 0,.int .i64 1,.int .i64 0,.lst [[.lst []]]]]),.d (.lst [])],.d (.lst [[.int .i64 3,.int .i64 1,.int .i64 0,.int .i64 0,.lst []],[.int .i64 4,.int .i64 0,.int .i64 1,.int .i64 0,.lst []]]),.d (.int .i64 0)]
theorem qe:KL Tryz.prog cfg (.fn 53) [] [] [] false none=.ok (.ret kP,[]):=HN G2.known_nil 400 60 (by kernel_rfl)
theorem XK:KL Tryz.prog cfg (.fn 31) [kP] [] [] false none=.ok (.ret gF,[]):=HN G2.known_nil 400 60 (by kernel_rfl)
theorem XZ:KL Tryz.prog cfg (.fn 15) [kP,kS] [] [] false none=.ok (.ret dX,[]):=HN G2.known_nil 400 60 (by kernel_rfl)
theorem cb:KL Tryz.prog cfg (.fn 17) [kP,kS,.d (.int .i64 2)] [] [] false none=.ok (.ret mj,[]):=HN G2.known_nil 400 60 (by kernel_rfl)
theorem iB:KL Tryz.prog cfg (.fn 17) [kP,kS,.d (.int .i64 3)] [] [] false none=.ok (.ret me,[]):=HN G2.known_nil 400 60 (by kernel_rfl)
theorem oL:KL Tryz.prog cfg (.fn 21) [kP,kS,kX] [] [] false none=.ok (.ret sj,[]):=HN G2.known_nil 400 60 (by kernel_rfl)
theorem Uq:KL Tryz.prog cfg (.fn 27) [kS,.d (.int .i64 0)] [] [] false none=.ok (.ret Wk,[]):=HN G2.known_nil 400 60 (by kernel_rfl)
theorem js:KL Tryz.prog cfg (.fn 25) [kP,kS,.d (.lst [[.int .i64 0],[.int .i64 0]])] [] [] false none=.ok (.ret rH,[]):=HN G2.known_nil 400 60 (by kernel_rfl)
def sP:G2:=[(53,[],kP),(31,[kP],gF),(15,[kP,kS],dX),(17,[kP,kS,.d (.int .i64 2)],mj),(17,[kP,kS,.d (.int .i64 3)],me),(21,[kP,kS,kX],sj),(27,[kS,.d (.int .i64 0)],Wk),(25,[kP,kS,.d (.lst [[.int .i64 0],[.int .i64 0]])],rH)]
theorem UI:sP.Known Tryz.prog cfg:=
 (G2.known_cons qe (G2.known_cons XK (G2.known_cons XZ (G2.known_cons cb (G2.known_cons iB (G2.known_cons oL (G2.known_cons Uq (G2.known_cons js G2.known_nil))))))))
theorem fJ:KL Tryz.prog cfg (.fn 20) [] [] [] false none=.ok (.ret (.d (.bool true)),[]):=HN UI 400 60 (by kernel_rfl)
end Go.Proofs
