/- Entries, by evaluation in the kernel. -/
import Derived.Test.YtgbeenpchkneiaaGreatDoorE2
import Derived.Test.YtgbeenpchkneiaaGreatDoorRows
namespace Go.Am
open Go Go.Proofs
theorem c6 : enOk ⟨fnOf Tryz.prog, memoE [e5]⟩ 100000 Tryz.prog.globals.size e6 = true := by decide +kernel
theorem c42 : enOk ⟨fnOf Tryz.prog, memoE []⟩ 100000 Tryz.prog.globals.size e42 = true := by decide +kernel
theorem c71 : enOk ⟨fnOf Tryz.prog, memoE []⟩ 100000 Tryz.prog.globals.size e71 = true := by decide +kernel
theorem c73 : enOk ⟨fnOf Tryz.prog, memoE []⟩ 100000 Tryz.prog.globals.size e73 = true := by decide +kernel
theorem c98 : enOk ⟨fnOf Tryz.prog, memoE [e1, e4, e6, e11, e12, e13, e15, e17, e18, e19, e20, e23, e24, e25, e27, e28, e32, e33, e34, e35, e39, e40, e41, e42, e43, e44, e46, e47, e48, e49, e50, e51, e52, e53, e54, e55, e56, e57, e58, e59, e60, e61, e62, e63]⟩ 100000 Tryz.prog.globals.size e98 = true := by decide +kernel
theorem c122 : enOk ⟨fnOf Tryz.prog, memoE []⟩ 100000 Tryz.prog.globals.size e122 = true := by decide +kernel
theorem c133 : enOk ⟨fnOf Tryz.prog, memoE [e64, e67, e68, e70, e75, e76, e77, e78, e79, e82, e83, e85, e90, e91, e92, e93, e94, e122, e132, e123]⟩ 100000 Tryz.prog.globals.size e133 = true := by decide +kernel
theorem c145 : enOk ⟨fnOf Tryz.prog, memoE []⟩ 100000 Tryz.prog.globals.size e145 = true := by decide +kernel
theorem c180 : enOk ⟨fnOf Tryz.prog, memoE [e84]⟩ 100000 Tryz.prog.globals.size e180 = true := by decide +kernel
theorem c208 : enOk ⟨fnOf Tryz.prog, memoE [e64, e67, e68, e70, e75, e76, e77, e78, e79, e82, e83, e85, e90, e91, e92, e93, e94, e117, e118]⟩ 100000 Tryz.prog.globals.size e208 = true := by decide +kernel
theorem c224 : enOk ⟨fnOf Tryz.prog, memoE []⟩ 100000 Tryz.prog.globals.size e224 = true := by decide +kernel
theorem c248 : enOk ⟨fnOf Tryz.prog, memoE []⟩ 100000 Tryz.prog.globals.size e248 = true := by decide +kernel
theorem c313 : enOk ⟨fnOf Tryz.prog, memoE [e64, e109]⟩ 100000 Tryz.prog.globals.size e313 = true := by decide +kernel
theorem c337 : enOk ⟨fnOf Tryz.prog, memoE [e202, e136, e324, e137, e165, e209, e168, e210, e169, e195, e214, e197, e215]⟩ 100000 Tryz.prog.globals.size e337 = true := by decide +kernel
theorem c338 : enOk ⟨fnOf Tryz.prog, memoE [e303]⟩ 100000 Tryz.prog.globals.size e338 = true := by decide +kernel
theorem c353 : enOk ⟨fnOf Tryz.prog, memoE [e107]⟩ 100000 Tryz.prog.globals.size e353 = true := by decide +kernel
end Go.Am
