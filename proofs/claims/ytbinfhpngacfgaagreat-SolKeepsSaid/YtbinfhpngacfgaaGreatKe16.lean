/-
  Parts of it.
-/
import Derived.KernelRfl
import Derived.Test.YtbinfhpngacfgaaGreatKe7
import Derived.Test.YtbinfhpngacfgaaGreatKe10
import Derived.Test.YtbinfhpngacfgaaGreatKe15
set_option linter.all false
namespace Go.Proofs
open Go Go.Abs
def kP:AV:=.agg [.d (.be [[.str ⟨#[111,117,116]⟩]]),.d (.be [[.int .i64 4,.int .i64 0,.be [],.be [[.int .i64 3]]],[.int .i64 2,.int .i64 0,.be [[.int .i64 2,.int .i64 4,.be []]],.be []],[.int .i64 7,.int .i64 0,.be [],.be []],[.int .i64 3,.int .i64 0,.be [],.be [[.int .i64 4],[.int .i64 5]]],[.int .i64 2,.int .i64 1,.be [[.int .i64 1,.int .i64 1,.be []]],.be []],[.int .i64 3,.int .i64 0,.be [],.be [[.int .i64 6],[.int .i64 7]]],[.int .i64 2,.int .i64 1,.be [[.int .i64 1,.int .i64 2,.be []]],.be []],[.int .i64 3,.int .i64 0,.be [],.be [[.int .i64 8],[.int .i64 9]]],[.int .i64 2,.int .i64 2,.be [],.be []],[.int .i64 8,.int .i64 3,.be [],.be [[.int .i64 10]]],[.int .i64 2,.int .i64 1,.be [[.int .i64 1,.int .i64 3,.be []]],.be []]]),.d (.be [[.be [[.int .i64 0,.int .i64 1],[.int .i64 0,.int .i64 0]],.be [[.int .i64 0,.int .i64 2]],.be [[.int .i64 0,.be [[.int .i64 0],[.int .i64 1]],.int .i64 1]]]]),.d (.int .i64 0)]
def v5:AV:=.ge [.agg [.d (.be [[.int .i64 (-1),.bool false],[.int .i64 0,.bool false]]),.d (.be [[.int .i64 0,.int .i64 0,.be [[.int .i64 2,.int .i64 0],[.int .i64 3,.int .i64 0],[.int .i64 3,.int .i64 1],[.int .i64 4,.int .i64 1]]]]),.d (.be [[.int .i64 0,.int .i64 0,.int .i64 0,.be [[.be [[.int .i64 1,.int .i64 1]]],[.be [[.int .i64 1,.int .i64 2]]]]],[.int .i64 0,.int .i64 1,.int .i64 0,.be [[.be []]]]]),.d (.be [[.int .i64 1,.int .i64 2,.be [[.int .i64 2,.int .i64 0],[.int .i64 3,.int .i64 0],[.int .i64 3,.int .i64 1],[.int .i64 4,.int .i64 1]]],[.int .i64 0,.int .i64 9,.be [[.int .i64 2,.int .i64 0],[.int .i64 3,.int .i64 0],[.int .i64 3,.int .i64 1],[.int .i64 4,.int .i64 1]]]])],.d (.be []),.d (.int .i64 0)]
def kS:AV:=.agg [.d (.be [[.int .i64 (-1),.bool false],[.int .i64 0,.bool false]]),.d (.be [[.int .i64 0,.int .i64 0,.be [[.int .i64 2,.int .i64 0],[.int .i64 3,.int .i64 0],[.int .i64 3,.int .i64 1],[.int .i64 4,.int .i64 1]]]]),.d (.be [[.int .i64 0,.int .i64 0,.int .i64 0,.be [[.be [[.int .i64 1,.int .i64 1]]],[.be [[.int .i64 1,.int .i64 2]]]]],[.int .i64 0,.int .i64 1,.int .i64 0,.be [[.be []]]]]),.d (.be [[.int .i64 1,.int .i64 2,.be [[.int .i64 2,.int .i64 0],[.int .i64 3,.int .i64 0],[.int .i64 3,.int .i64 1],[.int .i64 4,.int .i64 1]]],[.int .i64 0,.int .i64 9,.be [[.int .i64 2,.int .i64 0],[.int .i64 3,.int .i64 0],[.int .i64 3,.int .i64 1],[.int .i64 4,.int .i64 1]]]])]
def vz:AV:=.ge [.d (.int .i64 3),.d (.int .i64 0)]
def ADe:AV:=.ge [.agg [.d (.int .i64 (-1)),.d (.int .i64 0),.d (.int .i64 0),.d (.be [[.int .i64 1],[.int .i64 0]])],.d (.int .i64 0)]
def kX:AV:=.agg [.d (.int .i64 (-1)),.d (.int .i64 0),.d (.int .i64 0),.d (.be [[.int .i64 1],[.int .i64 0]])]
def ADf:AV:=.ge [.agg [.d (.int .i64 0),.d (.int .i64 0),.d (.int .i64 0),.d (.be [])],.d (.int .i64 5)]
def kDo:AV:=.ge [.agg [.d (.be [[.int .i64 (-1),.bool false],[.int .i64 0,.bool false]]),.d (.be [[.int .i64 0,.int .i64 0,.be [[.int .i64 2,.int .i64 0],[.int .i64 3,.int .i64 0],[.int .i64 3,.int .i64 1],[.int .i64 4,.int .i64 1]]]]),.d (.be [[.int .i64 0,.int .i64 0,.int .i64 0,.be [[.be [[.int .i64 1,.int .i64 1]]]]],[.int .i64 0,.int .i64 1,.int .i64 0,.be []]]),.d (.be [[.int .i64 1,.int .i64 2,.be [[.int .i64 2,.int .i64 0],[.int .i64 3,.int .i64 0],[.int .i64 3,.int .i64 1],[.int .i64 4,.int .i64 1]]],[.int .i64 0,.int .i64 9,.be [[.int .i64 2,.int .i64 0],[.int .i64 3,.int .i64 0],[.int .i64 3,.int .i64 1],[.int .i64 4,.int .i64 1]]]])],.d (.be [[.int .i64 1,.int .i64 0,.int .i64 0,.int .i64 0,.be [[.int .i64 1,.int .i64 2]]],[.int .i64 5,.int .i64 0,.int .i64 0,.int .i64 0,.be [[.int .i64 1,.int .i64 2]]]]),.d (.int .i64 0)]
def jf:AV:=.ge [.d (.be [[.int .i64 0],[.int .i64 1]]),.d (.int .i64 0)]
def AGn:AV:=.ge [.agg [.d (.be [[.int .i64 (-1),.bool false],[.int .i64 0,.bool true]]),.d (.be [[.int .i64 0,.int .i64 0,.be [[.int .i64 2,.int .i64 0],[.int .i64 3,.int .i64 0],[.int .i64 3,.int .i64 1],[.int .i64 4,.int .i64 1]]]]),.d (.be [[.int .i64 0,.int .i64 0,.int .i64 0,.be [[.be [[.int .i64 1,.int .i64 1]]],[.be [[.int .i64 1,.int .i64 2]]],[.be [[.int .i64 1,.int .i64 3]]]]],[.int .i64 0,.int .i64 1,.int .i64 0,.be [[.be []]]]]),.d (.be [])],.d (.be [[.int .i64 3,.int .i64 1,.int .i64 0,.int .i64 0,.be []],[.int .i64 4,.int .i64 0,.int .i64 1,.int .i64 0,.be []]]),.d (.int .i64 0)]
theorem AGm:KL Tryz.prog cfg (.fn 53) [] [] [] false none=.ok (.ret kP,[]):=Ky KU.known_nil 400 60 (by kernel_rfl)
theorem nd:KL Tryz.prog cfg (.fn 31) [kP] [] [] false none=.ok (.ret v5,[]):=Ky KU.known_nil 400 60 (by kernel_rfl)
theorem nZ:KL Tryz.prog cfg (.fn 15) [kP,kS] [] [] false none=.ok (.ret vz,[]):=Ky KU.known_nil 400 60 (by kernel_rfl)
theorem v7:KL Tryz.prog cfg (.fn 17) [kP,kS,.d (.int .i64 2)] [] [] false none=.ok (.ret ADe,[]):=Ky KU.known_nil 400 60 (by kernel_rfl)
theorem v8:KL Tryz.prog cfg (.fn 17) [kP,kS,.d (.int .i64 3)] [] [] false none=.ok (.ret ADf,[]):=Ky KU.known_nil 400 60 (by kernel_rfl)
theorem AEc:KL Tryz.prog cfg (.fn 21) [kP,kS,kX] [] [] false none=.ok (.ret kDo,[]):=Ky KU.known_nil 400 60 (by kernel_rfl)
theorem eB:KL Tryz.prog cfg (.fn 27) [kS,.d (.int .i64 0)] [] [] false none=.ok (.ret jf,[]):=Ky KU.known_nil 400 60 (by kernel_rfl)
theorem ABF:KL Tryz.prog cfg (.fn 25) [kP,kS,.d (.be [[.int .i64 0],[.int .i64 0]])] [] [] false none=.ok (.ret AGn,[]):=Ky KU.known_nil 400 60 (by kernel_rfl)
def AH2:KU:=[(53,[],kP),(31,[kP],v5),(15,[kP,kS],vz),(17,[kP,kS,.d (.int .i64 2)],ADe),(17,[kP,kS,.d (.int .i64 3)],ADf),(21,[kP,kS,kX],kDo),(27,[kS,.d (.int .i64 0)],jf),(25,[kP,kS,.d (.be [[.int .i64 0],[.int .i64 0]])],AGn)]
theorem eA:AH2.Known Tryz.prog cfg:=
 (KU.known_cons AGm (KU.known_cons nd (KU.known_cons nZ (KU.known_cons v7 (KU.known_cons v8 (KU.known_cons AEc (KU.known_cons eB (KU.known_cons ABF KU.known_nil))))))))
theorem wC:KL Tryz.prog cfg (.fn 20) [] [] [] false none=.ok (.ret (.d (.bool true)),[]):=Ky eA 400 60 (by kernel_rfl)
end Go.Proofs
