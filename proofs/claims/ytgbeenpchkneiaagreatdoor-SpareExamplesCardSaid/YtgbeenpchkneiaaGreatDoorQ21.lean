/- Entries, by evaluation in the kernel. -/
import Derived.Test.YtgbeenpchkneiaaGreatDoorE2
import Derived.Test.YtgbeenpchkneiaaGreatDoorRows
namespace Go.Am
open Go Go.Proofs
theorem c17 : enOk ⟨fnOf Tryz.prog, memoE [e7, e10, e9, e8, e16]⟩ 100000 Tryz.prog.globals.size e17 = true := by decide +kernel
theorem c26 : enOk ⟨fnOf Tryz.prog, memoE []⟩ 100000 Tryz.prog.globals.size e26 = true := by decide +kernel
theorem c56 : enOk ⟨fnOf Tryz.prog, memoE []⟩ 100000 Tryz.prog.globals.size e56 = true := by decide +kernel
theorem c82 : enOk ⟨fnOf Tryz.prog, memoE [e80, e81]⟩ 100000 Tryz.prog.globals.size e82 = true := by decide +kernel
theorem c92 : enOk ⟨fnOf Tryz.prog, memoE []⟩ 100000 Tryz.prog.globals.size e92 = true := by decide +kernel
theorem c137 : enOk ⟨fnOf Tryz.prog, memoE [e64, e67, e68, e70, e75, e76, e77, e78, e79, e82, e83, e85, e90, e91, e92, e93, e94]⟩ 100000 Tryz.prog.globals.size e137 = true := by decide +kernel
theorem c149 : enOk ⟨fnOf Tryz.prog, memoE [e89]⟩ 100000 Tryz.prog.globals.size e149 = true := by decide +kernel
theorem c174 : enOk ⟨fnOf Tryz.prog, memoE []⟩ 100000 Tryz.prog.globals.size e174 = true := by decide +kernel
theorem c191 : enOk ⟨fnOf Tryz.prog, memoE [e64, e170, e171, e172, e173, e174, e175, e176, e177, e178, e179, e180, e181, e182, e183, e184, e185, e117, e118]⟩ 100000 Tryz.prog.globals.size e191 = true := by decide +kernel
theorem c194 : enOk ⟨fnOf Tryz.prog, memoE [e187, e64, e188, e115, e189, e190, e120, e191, e192, e134, e193, e162, e102, e163]⟩ 100000 Tryz.prog.globals.size e194 = true := by decide +kernel
theorem c235 : enOk ⟨fnOf Tryz.prog, memoE [e234]⟩ 100000 Tryz.prog.globals.size e235 = true := by decide +kernel
theorem c280 : enOk ⟨fnOf Tryz.prog, memoE [e279]⟩ 100000 Tryz.prog.globals.size e280 = true := by decide +kernel
theorem c294 : enOk ⟨fnOf Tryz.prog, memoE [e95, e284, e285, e205, e269, e207, e270]⟩ 100000 Tryz.prog.globals.size e294 = true := by decide +kernel
theorem c295 : enOk ⟨fnOf Tryz.prog, memoE [e95, e284, e285, e205, e269, e207, e270]⟩ 100000 Tryz.prog.globals.size e295 = true := by decide +kernel
theorem c322 : enOk ⟨fnOf Tryz.prog, memoE [e0, e198, e199, e200, e216, e217, e252, e253, e282, e283, e299, e300, e301, e304, e306, e308, e309, e310, e312, e318, e321]⟩ 100000 Tryz.prog.globals.size e322 = true := by decide +kernel
theorem c347 : enOk ⟨fnOf Tryz.prog, memoE [e95, e346]⟩ 100000 Tryz.prog.globals.size e347 = true := by decide +kernel
theorem c364 : enOk ⟨fnOf Tryz.prog, memoE []⟩ 100000 Tryz.prog.globals.size e364 = true := by decide +kernel
end Go.Am
