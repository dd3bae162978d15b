/-
  Parts of it.
-/
import Derived.KernelRfl
import Derived.Test.YtbinfhpngacfgaaGreatFi7
import Derived.Test.YtbinfhpngacfgaaGreatFi10
import Derived.Test.YtbinfhpngacfgaaGreatFi14
set_option linter.all false
namespace Go.Proofs
open Go Go.Abs
def kP:AV:=.agg [.d (.be [[.str ⟨#[111,117,116]⟩]]),.d (.be [[.int .i64 4,.int .i64 0,.be [],.be [[.int .i64 3]]],[.int .i64 2,.int .i64 0,.be [[.int .i64 2,.int .i64 4,.be []]],.be []],[.int .i64 7,.int .i64 0,.be [],.be []],[.int .i64 3,.int .i64 0,.be [],.be [[.int .i64 4],[.int .i64 5]]],[.int .i64 2,.int .i64 1,.be [[.int .i64 1,.int .i64 1,.be []]],.be []],[.int .i64 3,.int .i64 0,.be [],.be [[.int .i64 6],[.int .i64 7]]],[.int .i64 2,.int .i64 1,.be [[.int .i64 1,.int .i64 2,.be []]],.be []],[.int .i64 3,.int .i64 0,.be [],.be [[.int .i64 8],[.int .i64 9]]],[.int .i64 2,.int .i64 2,.be [],.be []],[.int .i64 8,.int .i64 3,.be [],.be [[.int .i64 10]]],[.int .i64 2,.int .i64 1,.be [[.int .i64 1,.int .i64 3,.be []]],.be []]]),.d (.be [[.be [[.int .i64 0,.int .i64 1],[.int .i64 0,.int .i64 0]],.be [[.int .i64 0,.int .i64 2]],.be [[.int .i64 0,.be [[.int .i64 0],[.int .i64 1]],.int .i64 1]]]]),.d (.int .i64 0)]
def nr:AV:=.f8 [.agg [.d (.be [[.int .i64 (-1),.bool false],[.int .i64 0,.bool false]]),.d (.be [[.int .i64 0,.int .i64 0,.be [[.int .i64 2,.int .i64 0],[.int .i64 3,.int .i64 0],[.int .i64 3,.int .i64 1],[.int .i64 4,.int .i64 1]]]]),.d (.be [[.int .i64 0,.int .i64 0,.int .i64 0,.be [[.be [[.int .i64 1,.int .i64 1]]],[.be [[.int .i64 1,.int .i64 2]]]]],[.int .i64 0,.int .i64 1,.int .i64 0,.be [[.be []]]]]),.d (.be [[.int .i64 1,.int .i64 2,.be [[.int .i64 2,.int .i64 0],[.int .i64 3,.int .i64 0],[.int .i64 3,.int .i64 1],[.int .i64 4,.int .i64 1]]],[.int .i64 0,.int .i64 9,.be [[.int .i64 2,.int .i64 0],[.int .i64 3,.int .i64 0],[.int .i64 3,.int .i64 1],[.int .i64 4,.int .i64 1]]]])],.d (.be []),.d (.int .i64 0)]
def kS:AV:=.agg [.d (.be [[.int .i64 (-1),.bool false],[.int .i64 0,.bool false]]),.d (.be [[.int .i64 0,.int .i64 0,.be [[.int .i64 2,.int .i64 0],[.int .i64 3,.int .i64 0],[.int .i64 3,.int .i64 1],[.int .i64 4,.int .i64 1]]]]),.d (.be [[.int .i64 0,.int .i64 0,.int .i64 0,.be [[.be [[.int .i64 1,.int .i64 1]]],[.be [[.int .i64 1,.int .i64 2]]]]],[.int .i64 0,.int .i64 1,.int .i64 0,.be [[.be []]]]]),.d (.be [[.int .i64 1,.int .i64 2,.be [[.int .i64 2,.int .i64 0],[.int .i64 3,.int .i64 0],[.int .i64 3,.int .i64 1],[.int .i64 4,.int .i64 1]]],[.int .i64 0,.int .i64 9,.be [[.int .i64 2,.int .i64 0],[.int .i64 3,.int .i64 0],[.int .i64 3,.int .i64 1],[.int .i64 4,.int .i64 1]]]])]
def nq:AV:=.f8 [.d (.int .i64 3),.d (.int .i64 0)]
def wE:AV:=.f8 [.agg [.d (.int .i64 (-1)),.d (.int .i64 0),.d (.int .i64 0),.d (.be [[.int .i64 1],[.int .i64 0]])],.d (.int .i64 0)]
def kX:AV:=.agg [.d (.int .i64 (-1)),.d (.int .i64 0),.d (.int .i64 0),.d (.be [[.int .i64 1],[.int .i64 0]])]
def wG:AV:=.f8 [.agg [.d (.int .i64 0),.d (.int .i64 0),.d (.int .i64 0),.d (.be [])],.d (.int .i64 5)]
def kDo:AV:=.f8 [.agg [.d (.be [[.int .i64 (-1),.bool false],[.int .i64 0,.bool false]]),.d (.be [[.int .i64 0,.int .i64 0,.be [[.int .i64 2,.int .i64 0],[.int .i64 3,.int .i64 0],[.int .i64 3,.int .i64 1],[.int .i64 4,.int .i64 1]]]]),.d (.be [[.int .i64 0,.int .i64 0,.int .i64 0,.be [[.be [[.int .i64 1,.int .i64 1]]]]],[.int .i64 0,.int .i64 1,.int .i64 0,.be []]]),.d (.be [[.int .i64 1,.int .i64 2,.be [[.int .i64 2,.int .i64 0],[.int .i64 3,.int .i64 0],[.int .i64 3,.int .i64 1],[.int .i64 4,.int .i64 1]]],[.int .i64 0,.int .i64 9,.be [[.int .i64 2,.int .i64 0],[.int .i64 3,.int .i64 0],[.int .i64 3,.int .i64 1],[.int .i64 4,.int .i64 1]]]])],.d (.be [[.int .i64 1,.int .i64 0,.int .i64 0,.int .i64 0,.be [[.int .i64 1,.int .i64 2]]],[.int .i64 5,.int .i64 0,.int .i64 0,.int .i64 0,.be [[.int .i64 1,.int .i64 2]]]]),.d (.int .i64 0)]
def cY:AV:=.f8 [.d (.be [[.int .i64 0],[.int .i64 1]]),.d (.int .i64 0)]
def zq:AV:=.f8 [.agg [.d (.be [[.int .i64 (-1),.bool false],[.int .i64 0,.bool true]]),.d (.be [[.int .i64 0,.int .i64 0,.be [[.int .i64 2,.int .i64 0],[.int .i64 3,.int .i64 0],[.int .i64 3,.int .i64 1],[.int .i64 4,.int .i64 1]]]]),.d (.be [[.int .i64 0,.int .i64 0,.int .i64 0,.be [[.be [[.int .i64 1,.int .i64 1]]],[.be [[.int .i64 1,.int .i64 2]]],[.be [[.int .i64 1,.int .i64 3]]]]],[.int .i64 0,.int .i64 1,.int .i64 0,.be [[.be []]]]]),.d (.be [])],.d (.be [[.int .i64 3,.int .i64 1,.int .i64 0,.int .i64 0,.be []],[.int .i64 4,.int .i64 0,.int .i64 1,.int .i64 0,.be []]]),.d (.int .i64 0)]
theorem zp:KL Tryz.prog cfg (.fn 53) [] [] [] false none=.ok (.ret kP,[]):=Jh JG.known_nil 400 60 (by kernel_rfl)
theorem fj:KL Tryz.prog cfg (.fn 31) [kP] [] [] false none=.ok (.ret nr,[]):=Jh JG.known_nil 400 60 (by kernel_rfl)
theorem fh:KL Tryz.prog cfg (.fn 15) [kP,kS] [] [] false none=.ok (.ret nq,[]):=Jh JG.known_nil 400 60 (by kernel_rfl)
theorem nu:KL Tryz.prog cfg (.fn 17) [kP,kS,.d (.int .i64 2)] [] [] false none=.ok (.ret wE,[]):=Jh JG.known_nil 400 60 (by kernel_rfl)
theorem nv:KL Tryz.prog cfg (.fn 17) [kP,kS,.d (.int .i64 3)] [] [] false none=.ok (.ret wG,[]):=Jh JG.known_nil 400 60 (by kernel_rfl)
theorem xW:KL Tryz.prog cfg (.fn 21) [kP,kS,kX] [] [] false none=.ok (.ret kDo,[]):=Jh JG.known_nil 400 60 (by kernel_rfl)
theorem Zi:KL Tryz.prog cfg (.fn 27) [kS,.d (.int .i64 0)] [] [] false none=.ok (.ret cY,[]):=Jh JG.known_nil 400 60 (by kernel_rfl)
theorem sv:KL Tryz.prog cfg (.fn 25) [kP,kS,.d (.be [[.int .i64 0],[.int .i64 0]])] [] [] false none=.ok (.ret zq,[]):=Jh JG.known_nil 400 60 (by kernel_rfl)
def ABJ:JG:=[(53,[],kP),(31,[kP],nr),(15,[kP,kS],nq),(17,[kP,kS,.d (.int .i64 2)],wE),(17,[kP,kS,.d (.int .i64 3)],wG),(21,[kP,kS,kX],kDo),(27,[kS,.d (.int .i64 0)],cY),(25,[kP,kS,.d (.be [[.int .i64 0],[.int .i64 0]])],zq)]
theorem Zh:ABJ.Known Tryz.prog cfg:=
 (JG.known_cons zp (JG.known_cons fj (JG.known_cons fh (JG.known_cons nu (JG.known_cons nv (JG.known_cons xW (JG.known_cons Zi (JG.known_cons sv JG.known_nil))))))))
theorem nz:KL Tryz.prog cfg (.fn 20) [] [] [] false none=.ok (.ret (.d (.bool true)),[]):=Jh Zh 400 60 (by kernel_rfl)
end Go.Proofs
