/- Entries, by evaluation in the kernel. -/
import Derived.Test.YtgbeenpchkneiaaGreatDoorE2
import Derived.Test.YtgbeenpchkneiaaGreatDoorRows
namespace Go.Am
open Go Go.Proofs
theorem c3 : enOk ⟨fnOf Tryz.prog, memoE []⟩ 100000 Tryz.prog.globals.size e3 = true := by decide +kernel
theorem c38 : enOk ⟨fnOf Tryz.prog, memoE [e37]⟩ 100000 Tryz.prog.globals.size e38 = true := by decide +kernel
theorem c66 : enOk ⟨fnOf Tryz.prog, memoE []⟩ 100000 Tryz.prog.globals.size e66 = true := by decide +kernel
theorem c101 : enOk ⟨fnOf Tryz.prog, memoE [e1, e4, e6, e11, e12, e13, e15, e17, e18, e19, e20, e23, e24, e25, e27, e28, e32, e33, e34, e35, e39, e40, e41, e42, e43, e44, e46, e47, e48, e49, e50, e51, e52, e53, e54, e55, e56, e57, e58, e59, e60, e61, e62, e63, e71, e100]⟩ 100000 Tryz.prog.globals.size e101 = true := by decide +kernel
theorem c105 : enOk ⟨fnOf Tryz.prog, memoE [e95]⟩ 100000 Tryz.prog.globals.size e105 = true := by decide +kernel
theorem c108 : enOk ⟨fnOf Tryz.prog, memoE []⟩ 100000 Tryz.prog.globals.size e108 = true := by decide +kernel
theorem c117 : enOk ⟨fnOf Tryz.prog, memoE []⟩ 100000 Tryz.prog.globals.size e117 = true := by decide +kernel
theorem c121 : enOk ⟨fnOf Tryz.prog, memoE [e64, e67, e68, e70, e75, e76, e77, e78, e79, e82, e83, e85, e90, e91, e92, e93, e94, e117, e118]⟩ 100000 Tryz.prog.globals.size e121 = true := by decide +kernel
theorem c127 : enOk ⟨fnOf Tryz.prog, memoE [e64, e67, e68, e70, e75, e76, e77, e78, e79, e82, e83, e85, e90, e91, e92, e93, e94, e109, e126, e110]⟩ 100000 Tryz.prog.globals.size e127 = true := by decide +kernel
theorem c172 : enOk ⟨fnOf Tryz.prog, memoE [e69]⟩ 100000 Tryz.prog.globals.size e172 = true := by decide +kernel
theorem c211 : enOk ⟨fnOf Tryz.prog, memoE []⟩ 100000 Tryz.prog.globals.size e211 = true := by decide +kernel
theorem c222 : enOk ⟨fnOf Tryz.prog, memoE [e95, e212, e206, e218, e219]⟩ 100000 Tryz.prog.globals.size e222 = true := by decide +kernel
theorem c246 : enOk ⟨fnOf Tryz.prog, memoE []⟩ 100000 Tryz.prog.globals.size e246 = true := by decide +kernel
theorem c309 : enOk ⟨fnOf Tryz.prog, memoE []⟩ 100000 Tryz.prog.globals.size e309 = true := by decide +kernel
theorem c352 : enOk ⟨fnOf Tryz.prog, memoE [e351]⟩ 100000 Tryz.prog.globals.size e352 = true := by decide +kernel
end Go.Am
