/- Entries, by evaluation in the kernel. -/
import Derived.Test.YtgbeenpchkneiaaGreatDoorE2
import Derived.Test.YtgbeenpchkneiaaGreatDoorRows
namespace Go.Am
open Go Go.Proofs
theorem c9 : enOk ⟨fnOf Tryz.prog, memoE []⟩ 100000 Tryz.prog.globals.size e9 = true := by decide +kernel
theorem c23 : enOk ⟨fnOf Tryz.prog, memoE [e9, e21, e22, e10]⟩ 100000 Tryz.prog.globals.size e23 = true := by decide +kernel
theorem c48 : enOk ⟨fnOf Tryz.prog, memoE []⟩ 100000 Tryz.prog.globals.size e48 = true := by decide +kernel
theorem c77 : enOk ⟨fnOf Tryz.prog, memoE []⟩ 100000 Tryz.prog.globals.size e77 = true := by decide +kernel
theorem c129 : enOk ⟨fnOf Tryz.prog, memoE []⟩ 100000 Tryz.prog.globals.size e129 = true := by decide +kernel
theorem c135 : enOk ⟨fnOf Tryz.prog, memoE [e64, e67, e68, e70, e75, e76, e77, e78, e79, e82, e83, e85, e90, e91, e92, e93, e94, e122, e123]⟩ 100000 Tryz.prog.globals.size e135 = true := by decide +kernel
theorem c177 : enOk ⟨fnOf Tryz.prog, memoE []⟩ 100000 Tryz.prog.globals.size e177 = true := by decide +kernel
theorem c197 : enOk ⟨fnOf Tryz.prog, memoE [e196]⟩ 100000 Tryz.prog.globals.size e197 = true := by decide +kernel
theorem c198 : enOk ⟨fnOf Tryz.prog, memoE [e107, e136, e137, e165, e168, e169, e195, e197]⟩ 100000 Tryz.prog.globals.size e198 = true := by decide +kernel
theorem c221 : enOk ⟨fnOf Tryz.prog, memoE [e95, e205, e206, e218, e219]⟩ 100000 Tryz.prog.globals.size e221 = true := by decide +kernel
theorem c227 : enOk ⟨fnOf Tryz.prog, memoE [e226]⟩ 100000 Tryz.prog.globals.size e227 = true := by decide +kernel
theorem c251 : enOk ⟨fnOf Tryz.prog, memoE []⟩ 100000 Tryz.prog.globals.size e251 = true := by decide +kernel
theorem c312 : enOk ⟨fnOf Tryz.prog, memoE [e199, e311]⟩ 100000 Tryz.prog.globals.size e312 = true := by decide +kernel
theorem c324 : enOk ⟨fnOf Tryz.prog, memoE [e1, e4, e6, e11, e12, e13, e15, e17, e18, e19, e20, e23, e24, e25, e27, e28, e32, e33, e34, e35, e39, e40, e41, e42, e43, e44, e46, e47, e48, e49, e50, e51, e52, e53, e54, e55, e56, e57, e58, e59, e60, e61, e62, e63, e113, e323]⟩ 100000 Tryz.prog.globals.size e324 = true := by decide +kernel
theorem c359 : enOk ⟨fnOf Tryz.prog, memoE [e358, e105, e106]⟩ 100000 Tryz.prog.globals.size e359 = true := by decide +kernel
end Go.Am
