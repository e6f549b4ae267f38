/- Entries, by evaluation in the kernel. -/
import Derived.Test.YtgbeenpchkneiaaGreatDoorE2
import Derived.Test.YtgbeenpchkneiaaGreatDoorRows
namespace Go.Am
open Go Go.Proofs
theorem c8 : enOk ⟨fnOf Tryz.prog, memoE []⟩ 100000 Tryz.prog.globals.size e8 = true := by decide +kernel
theorem c13 : enOk ⟨fnOf Tryz.prog, memoE [e2, e5]⟩ 100000 Tryz.prog.globals.size e13 = true := by decide +kernel
theorem c47 : enOk ⟨fnOf Tryz.prog, memoE []⟩ 100000 Tryz.prog.globals.size e47 = true := by decide +kernel
theorem c75 : enOk ⟨fnOf Tryz.prog, memoE [e74]⟩ 100000 Tryz.prog.globals.size e75 = true := by decide +kernel
theorem c76 : enOk ⟨fnOf Tryz.prog, memoE []⟩ 100000 Tryz.prog.globals.size e76 = true := by decide +kernel
theorem c89 : enOk ⟨fnOf Tryz.prog, memoE [e1, e4, e6, e11, e12, e13, e15, e17, e18, e19, e20, e23, e24, e25, e27, e28, e32, e33, e34, e35, e39, e40, e41, e42, e43, e44, e46, e47, e48, e49, e50, e51, e52, e53, e54, e55, e56, e57, e58, e59, e60, e61, e62, e63, e86, e87, e88]⟩ 100000 Tryz.prog.globals.size e89 = true := by decide +kernel
theorem c119 : enOk ⟨fnOf Tryz.prog, memoE [e64, e67, e68, e70, e75, e76, e77, e78, e79, e82, e83, e85, e90, e91, e92, e93, e94, e117, e118]⟩ 100000 Tryz.prog.globals.size e119 = true := by decide +kernel
theorem c126 : enOk ⟨fnOf Tryz.prog, memoE []⟩ 100000 Tryz.prog.globals.size e126 = true := by decide +kernel
theorem c131 : enOk ⟨fnOf Tryz.prog, memoE [e64, e67, e68, e70, e75, e76, e77, e78, e79, e82, e83, e85, e90, e91, e92, e93, e94, e117, e118]⟩ 100000 Tryz.prog.globals.size e131 = true := by decide +kernel
theorem c171 : enOk ⟨fnOf Tryz.prog, memoE []⟩ 100000 Tryz.prog.globals.size e171 = true := by decide +kernel
theorem c195 : enOk ⟨fnOf Tryz.prog, memoE [e194]⟩ 100000 Tryz.prog.globals.size e195 = true := by decide +kernel
theorem c226 : enOk ⟨fnOf Tryz.prog, memoE []⟩ 100000 Tryz.prog.globals.size e226 = true := by decide +kernel
theorem c250 : enOk ⟨fnOf Tryz.prog, memoE []⟩ 100000 Tryz.prog.globals.size e250 = true := by decide +kernel
theorem c314 : enOk ⟨fnOf Tryz.prog, memoE [e95, e205, e256, e218, e313]⟩ 100000 Tryz.prog.globals.size e314 = true := by decide +kernel
theorem c361 : enOk ⟨fnOf Tryz.prog, memoE [e359, e360]⟩ 100000 Tryz.prog.globals.size e361 = true := by decide +kernel
end Go.Am
