/- Entries, by evaluation in the kernel. -/
import Derived.Test.YtgbeenpchkneiaaGreatDoorE2
import Derived.Test.YtgbeenpchkneiaaGreatDoorRows
namespace Go.Am
open Go Go.Proofs
theorem c29 : enOk ⟨fnOf Tryz.prog, memoE []⟩ 100000 Tryz.prog.globals.size e29 = true := by decide +kernel
theorem c59 : enOk ⟨fnOf Tryz.prog, memoE []⟩ 100000 Tryz.prog.globals.size e59 = true := by decide +kernel
theorem c93 : enOk ⟨fnOf Tryz.prog, memoE []⟩ 100000 Tryz.prog.globals.size e93 = true := by decide +kernel
theorem c97 : enOk ⟨fnOf Tryz.prog, memoE []⟩ 100000 Tryz.prog.globals.size e97 = true := by decide +kernel
theorem c136 : enOk ⟨fnOf Tryz.prog, memoE [e104, e108, e64, e111, e115, e116, e119, e120, e121, e124, e125, e127, e128, e130, e131, e133, e134, e135]⟩ 100000 Tryz.prog.globals.size e136 = true := by decide +kernel
theorem c163 : enOk ⟨fnOf Tryz.prog, memoE []⟩ 100000 Tryz.prog.globals.size e163 = true := by decide +kernel
theorem c166 : enOk ⟨fnOf Tryz.prog, memoE [e74]⟩ 100000 Tryz.prog.globals.size e166 = true := by decide +kernel
theorem c169 : enOk ⟨fnOf Tryz.prog, memoE [e64, e67, e68, e70, e75, e76, e77, e78, e79, e82, e83, e85, e90, e91, e92, e93, e94]⟩ 100000 Tryz.prog.globals.size e169 = true := by decide +kernel
theorem c176 : enOk ⟨fnOf Tryz.prog, memoE []⟩ 100000 Tryz.prog.globals.size e176 = true := by decide +kernel
theorem c193 : enOk ⟨fnOf Tryz.prog, memoE [e64, e170, e171, e172, e173, e174, e175, e176, e177, e178, e179, e180, e181, e182, e183, e184, e185, e122, e123]⟩ 100000 Tryz.prog.globals.size e193 = true := by decide +kernel
theorem c199 : enOk ⟨fnOf Tryz.prog, memoE []⟩ 100000 Tryz.prog.globals.size e199 = true := by decide +kernel
theorem c237 : enOk ⟨fnOf Tryz.prog, memoE []⟩ 100000 Tryz.prog.globals.size e237 = true := by decide +kernel
theorem c275 : enOk ⟨fnOf Tryz.prog, memoE [e187, e64, e188, e115, e189, e190, e120, e191, e192, e134, e193, e162, e102, e163]⟩ 100000 Tryz.prog.globals.size e275 = true := by decide +kernel
theorem c278 : enOk ⟨fnOf Tryz.prog, memoE [e95, e212, e269, e207, e277]⟩ 100000 Tryz.prog.globals.size e278 = true := by decide +kernel
theorem c296 : enOk ⟨fnOf Tryz.prog, memoE [e95, e284, e285, e212, e269, e207, e277]⟩ 100000 Tryz.prog.globals.size e296 = true := by decide +kernel
theorem c327 : enOk ⟨fnOf Tryz.prog, memoE [e326]⟩ 100000 Tryz.prog.globals.size e327 = true := by decide +kernel
theorem c355 : enOk ⟨fnOf Tryz.prog, memoE []⟩ 100000 Tryz.prog.globals.size e355 = true := by decide +kernel
end Go.Am
