/- Entries, by evaluation in the kernel. -/
import Derived.Test.YtgbeenpchkneiaaGreatDoorE2
import Derived.Test.YtgbeenpchkneiaaGreatDoorRows
namespace Go.Am
open Go Go.Proofs
theorem c1 : enOk ⟨fnOf Tryz.prog, memoE []⟩ 100000 Tryz.prog.globals.size e1 = true := by decide +kernel
theorem c18 : enOk ⟨fnOf Tryz.prog, memoE []⟩ 100000 Tryz.prog.globals.size e18 = true := by decide +kernel
theorem c36 : enOk ⟨fnOf Tryz.prog, memoE []⟩ 100000 Tryz.prog.globals.size e36 = true := by decide +kernel
theorem c61 : enOk ⟨fnOf Tryz.prog, memoE []⟩ 100000 Tryz.prog.globals.size e61 = true := by decide +kernel
theorem c96 : enOk ⟨fnOf Tryz.prog, memoE [e1, e4, e6, e11, e12, e13, e15, e17, e18, e19, e20, e23, e24, e25, e27, e28, e32, e33, e34, e35, e39, e40, e41, e42, e43, e44, e46, e47, e48, e49, e50, e51, e52, e53, e54, e55, e56, e57, e58, e59, e60, e61, e62, e63]⟩ 100000 Tryz.prog.globals.size e96 = true := by decide +kernel
theorem c106 : enOk ⟨fnOf Tryz.prog, memoE []⟩ 100000 Tryz.prog.globals.size e106 = true := by decide +kernel
theorem c124 : enOk ⟨fnOf Tryz.prog, memoE [e64, e67, e68, e70, e75, e76, e77, e78, e79, e82, e83, e85, e90, e91, e92, e93, e94, e122, e123]⟩ 100000 Tryz.prog.globals.size e124 = true := by decide +kernel
theorem c168 : enOk ⟨fnOf Tryz.prog, memoE [e167]⟩ 100000 Tryz.prog.globals.size e168 = true := by decide +kernel
theorem c185 : enOk ⟨fnOf Tryz.prog, memoE []⟩ 100000 Tryz.prog.globals.size e185 = true := by decide +kernel
theorem c213 : enOk ⟨fnOf Tryz.prog, memoE [e64, e67, e68, e70, e75, e76, e77, e78, e79, e82, e83, e85, e90, e91, e92, e93, e94, e117, e118, e129]⟩ 100000 Tryz.prog.globals.size e213 = true := by decide +kernel
theorem c240 : enOk ⟨fnOf Tryz.prog, memoE [e239]⟩ 100000 Tryz.prog.globals.size e240 = true := by decide +kernel
theorem c301 : enOk ⟨fnOf Tryz.prog, memoE [e107, e136, e137, e165, e233, e168, e235, e169, e195, e243, e197, e245]⟩ 100000 Tryz.prog.globals.size e301 = true := by decide +kernel
theorem c303 : enOk ⟨fnOf Tryz.prog, memoE []⟩ 100000 Tryz.prog.globals.size e303 = true := by decide +kernel
theorem c311 : enOk ⟨fnOf Tryz.prog, memoE [e217]⟩ 100000 Tryz.prog.globals.size e311 = true := by decide +kernel
theorem c318 : enOk ⟨fnOf Tryz.prog, memoE [e0, e317]⟩ 100000 Tryz.prog.globals.size e318 = true := by decide +kernel
theorem c349 : enOk ⟨fnOf Tryz.prog, memoE [e348]⟩ 100000 Tryz.prog.globals.size e349 = true := by decide +kernel
end Go.Am
