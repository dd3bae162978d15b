/-
  Parts of it.
-/
import Derived.KernelRfl
import Derived.Test.YtbinfhpngacfgaaGreatSp7
import Derived.Test.YtbinfhpngacfgaaGreatSp10
import Derived.Test.YtbinfhpngacfgaaGreatSp14
set_option linter.all false
namespace Go.Proofs
open Go Go.Abs
def kP:AV:=.agg [.d (.ce [[.str ⟨#[111,117,116]⟩]]),.d (.ce [[.int .i64 4,.int .i64 0,.ce [],.ce [[.int .i64 3]]],[.int .i64 2,.int .i64 0,.ce [[.int .i64 2,.int .i64 4,.ce []]],.ce []],[.int .i64 7,.int .i64 0,.ce [],.ce []],[.int .i64 3,.int .i64 0,.ce [],.ce [[.int .i64 4],[.int .i64 5]]],[.int .i64 2,.int .i64 1,.ce [[.int .i64 1,.int .i64 1,.ce []]],.ce []],[.int .i64 3,.int .i64 0,.ce [],.ce [[.int .i64 6],[.int .i64 7]]],[.int .i64 2,.int .i64 1,.ce [[.int .i64 1,.int .i64 2,.ce []]],.ce []],[.int .i64 3,.int .i64 0,.ce [],.ce [[.int .i64 8],[.int .i64 9]]],[.int .i64 2,.int .i64 2,.ce [],.ce []],[.int .i64 8,.int .i64 3,.ce [],.ce [[.int .i64 10]]],[.int .i64 2,.int .i64 1,.ce [[.int .i64 1,.int .i64 3,.ce []]],.ce []]]),.d (.ce [[.ce [[.int .i64 0,.int .i64 1],[.int .i64 0,.int .i64 0]],.ce [[.int .i64 0,.int .i64 2]],.ce [[.int .i64 0,.ce [[.int .i64 0],[.int .i64 1]],.int .i64 1]]]]),.d (.int .i64 0)]
def qq:AV:=.it [.agg [.d (.ce [[.int .i64 (-1),.bool false],[.int .i64 0,.bool false]]),.d (.ce [[.int .i64 0,.int .i64 0,.ce [[.int .i64 2,.int .i64 0],[.int .i64 3,.int .i64 0],[.int .i64 3,.int .i64 1],[.int .i64 4,.int .i64 1]]]]),.d (.ce [[.int .i64 0,.int .i64 0,.int .i64 0,.ce [[.ce [[.int .i64 1,.int .i64 1]]],[.ce [[.int .i64 1,.int .i64 2]]]]],[.int .i64 0,.int .i64 1,.int .i64 0,.ce [[.ce []]]]]),.d (.ce [[.int .i64 1,.int .i64 2,.ce [[.int .i64 2,.int .i64 0],[.int .i64 3,.int .i64 0],[.int .i64 3,.int .i64 1],[.int .i64 4,.int .i64 1]]],[.int .i64 0,.int .i64 9,.ce [[.int .i64 2,.int .i64 0],[.int .i64 3,.int .i64 0],[.int .i64 3,.int .i64 1],[.int .i64 4,.int .i64 1]]]])],.d (.ce []),.d (.int .i64 0)]
def kS:AV:=.agg [.d (.ce [[.int .i64 (-1),.bool false],[.int .i64 0,.bool false]]),.d (.ce [[.int .i64 0,.int .i64 0,.ce [[.int .i64 2,.int .i64 0],[.int .i64 3,.int .i64 0],[.int .i64 3,.int .i64 1],[.int .i64 4,.int .i64 1]]]]),.d (.ce [[.int .i64 0,.int .i64 0,.int .i64 0,.ce [[.ce [[.int .i64 1,.int .i64 1]]],[.ce [[.int .i64 1,.int .i64 2]]]]],[.int .i64 0,.int .i64 1,.int .i64 0,.ce [[.ce []]]]]),.d (.ce [[.int .i64 1,.int .i64 2,.ce [[.int .i64 2,.int .i64 0],[.int .i64 3,.int .i64 0],[.int .i64 3,.int .i64 1],[.int .i64 4,.int .i64 1]]],[.int .i64 0,.int .i64 9,.ce [[.int .i64 2,.int .i64 0],[.int .i64 3,.int .i64 0],[.int .i64 3,.int .i64 1],[.int .i64 4,.int .i64 1]]]])]
def qp:AV:=.it [.d (.int .i64 3),.d (.int .i64 0)]
def zP:AV:=.it [.agg [.d (.int .i64 (-1)),.d (.int .i64 0),.d (.int .i64 0),.d (.ce [[.int .i64 1],[.int .i64 0]])],.d (.int .i64 0)]
def kX:AV:=.agg [.d (.int .i64 (-1)),.d (.int .i64 0),.d (.int .i64 0),.d (.ce [[.int .i64 1],[.int .i64 0]])]
def zQ:AV:=.it [.agg [.d (.int .i64 0),.d (.int .i64 0),.d (.int .i64 0),.d (.ce [])],.d (.int .i64 5)]
def kDo:AV:=.it [.agg [.d (.ce [[.int .i64 (-1),.bool false],[.int .i64 0,.bool false]]),.d (.ce [[.int .i64 0,.int .i64 0,.ce [[.int .i64 2,.int .i64 0],[.int .i64 3,.int .i64 0],[.int .i64 3,.int .i64 1],[.int .i64 4,.int .i64 1]]]]),.d (.ce [[.int .i64 0,.int .i64 0,.int .i64 0,.ce [[.ce [[.int .i64 1,.int .i64 1]]]]],[.int .i64 0,.int .i64 1,.int .i64 0,.ce []]]),.d (.ce [[.int .i64 1,.int .i64 2,.ce [[.int .i64 2,.int .i64 0],[.int .i64 3,.int .i64 0],[.int .i64 3,.int .i64 1],[.int .i64 4,.int .i64 1]]],[.int .i64 0,.int .i64 9,.ce [[.int .i64 2,.int .i64 0],[.int .i64 3,.int .i64 0],[.int .i64 3,.int .i64 1],[.int .i64 4,.int .i64 1]]]])],.d (.ce [[.int .i64 1,.int .i64 0,.int .i64 0,.int .i64 0,.ce [[.int .i64 1,.int .i64 2]]],[.int .i64 5,.int .i64 0,.int .i64 0,.int .i64 0,.ce [[.int .i64 1,.int .i64 2]]]]),.d (.int .i64 0)]
def eu:AV:=.it [.d (.ce [[.int .i64 0],[.int .i64 1]]),.d (.int .i64 0)]
def ACH:AV:=.it [.agg [.d (.ce [[.int .i64 (-1),.bool false],[.int .i64 0,.bool true]]),.d (.ce [[.int .i64 0,.int .i64 0,.ce [[.int .i64 2,.int .i64 0],[.int .i64 3,.int .i64 0],[.int .i64 3,.int .i64 1],[.int .i64 4,.int .i64 1]]]]),.d (.ce [[.int .i64 0,.int .i64 0,.int .i64 0,.ce [[.ce [[.int .i64 1,.int .i64 1]]],[.ce [[.int .i64 1,.int .i64 2]]],[.ce [[.int .i64 1,.int .i64 3]]]]],[.int .i64 0,.int .i64 1,.int .i64 0,.ce [[.ce []]]]]),.d (.ce [])],.d (.ce [[.int .i64 3,.int .i64 1,.int .i64 0,.int .i64 0,.ce []],[.int .i64 4,.int .i64 0,.int .i64 1,.int .i64 0,.ce []]]),.d (.int .i64 0)]
theorem ACG:KL Tryz.prog cfg (.fn 53) [] [] [] false none=.ok (.ret kP,[]):=J4 Jg.known_nil 400 60 (by kernel_rfl)
theorem jO:KL Tryz.prog cfg (.fn 31) [kP] [] [] false none=.ok (.ret qq,[]):=J4 Jg.known_nil 400 60 (by kernel_rfl)
theorem jN:KL Tryz.prog cfg (.fn 15) [kP,kS] [] [] false none=.ok (.ret qp,[]):=J4 Jg.known_nil 400 60 (by kernel_rfl)
theorem qt:KL Tryz.prog cfg (.fn 17) [kP,kS,.d (.int .i64 2)] [] [] false none=.ok (.ret zP,[]):=J4 Jg.known_nil 400 60 (by kernel_rfl)
theorem qu:KL Tryz.prog cfg (.fn 17) [kP,kS,.d (.int .i64 3)] [] [] false none=.ok (.ret zQ,[]):=J4 Jg.known_nil 400 60 (by kernel_rfl)
theorem AAU:KL Tryz.prog cfg (.fn 21) [kP,kS,kX] [] [] false none=.ok (.ret kDo,[]):=J4 Jg.known_nil 400 60 (by kernel_rfl)
theorem bG:KL Tryz.prog cfg (.fn 27) [kS,.d (.int .i64 0)] [] [] false none=.ok (.ret eu,[]):=J4 Jg.known_nil 400 60 (by kernel_rfl)
theorem wy:KL Tryz.prog cfg (.fn 25) [kP,kS,.d (.ce [[.int .i64 0],[.int .i64 0]])] [] [] false none=.ok (.ret ACH,[]):=J4 Jg.known_nil 400 60 (by kernel_rfl)
def ADj:Jg:=[(53,[],kP),(31,[kP],qq),(15,[kP,kS],qp),(17,[kP,kS,.d (.int .i64 2)],zP),(17,[kP,kS,.d (.int .i64 3)],zQ),(21,[kP,kS,kX],kDo),(27,[kS,.d (.int .i64 0)],eu),(25,[kP,kS,.d (.ce [[.int .i64 0],[.int .i64 0]])],ACH)]
theorem bF:ADj.Known Tryz.prog cfg:=
 (Jg.known_cons ACG (Jg.known_cons jO (Jg.known_cons jN (Jg.known_cons qt (Jg.known_cons qu (Jg.known_cons AAU (Jg.known_cons bG (Jg.known_cons wy Jg.known_nil))))))))
theorem qz:KL Tryz.prog cfg (.fn 20) [] [] [] false none=.ok (.ret (.d (.bool true)),[]):=J4 bF 400 60 (by kernel_rfl)
end Go.Proofs
