/- Entries, by evaluation in the kernel. -/
import Derived.Test.YtgbeenpchkneiaaGreatDoorE2
import Derived.Test.YtgbeenpchkneiaaGreatDoorRows
namespace Go.Am
open Go Go.Proofs
theorem c27 : enOk ⟨fnOf Tryz.prog, memoE [e26]⟩ 100000 Tryz.prog.globals.size e27 = true := by decide +kernel
theorem c58 : enOk ⟨fnOf Tryz.prog, memoE []⟩ 100000 Tryz.prog.globals.size e58 = true := by decide +kernel
theorem c74 : enOk ⟨fnOf Tryz.prog, memoE [e1, e4, e6, e11, e12, e13, e15, e17, e18, e19, e20, e23, e24, e25, e27, e28, e32, e33, e34, e35, e39, e40, e41, e42, e43, e44, e46, e47, e48, e49, e50, e51, e52, e53, e54, e55, e56, e57, e58, e59, e60, e61, e62, e63, e71, e72, e73]⟩ 100000 Tryz.prog.globals.size e74 = true := by decide +kernel
theorem c85 : enOk ⟨fnOf Tryz.prog, memoE [e84]⟩ 100000 Tryz.prog.globals.size e85 = true := by decide +kernel
theorem c94 : enOk ⟨fnOf Tryz.prog, memoE []⟩ 100000 Tryz.prog.globals.size e94 = true := by decide +kernel
theorem c111 : enOk ⟨fnOf Tryz.prog, memoE [e64, e67, e68, e70, e75, e76, e77, e78, e79, e82, e83, e85, e90, e91, e92, e93, e94, e109, e110]⟩ 100000 Tryz.prog.globals.size e111 = true := by decide +kernel
theorem c128 : enOk ⟨fnOf Tryz.prog, memoE [e64, e67, e68, e70, e75, e76, e77, e78, e79, e82, e83, e85, e90, e91, e92, e93, e94, e109, e110]⟩ 100000 Tryz.prog.globals.size e128 = true := by decide +kernel
theorem c155 : enOk ⟨fnOf Tryz.prog, memoE [e154, e96, e97, e98, e99, e102, e103]⟩ 100000 Tryz.prog.globals.size e155 = true := by decide +kernel
theorem c162 : enOk ⟨fnOf Tryz.prog, memoE []⟩ 100000 Tryz.prog.globals.size e162 = true := by decide +kernel
theorem c175 : enOk ⟨fnOf Tryz.prog, memoE []⟩ 100000 Tryz.prog.globals.size e175 = true := by decide +kernel
theorem c223 : enOk ⟨fnOf Tryz.prog, memoE [e95, e212, e206, e218, e219]⟩ 100000 Tryz.prog.globals.size e223 = true := by decide +kernel
theorem c236 : enOk ⟨fnOf Tryz.prog, memoE []⟩ 100000 Tryz.prog.globals.size e236 = true := by decide +kernel
theorem c325 : enOk ⟨fnOf Tryz.prog, memoE [e324]⟩ 100000 Tryz.prog.globals.size e325 = true := by decide +kernel
theorem c350 : enOk ⟨fnOf Tryz.prog, memoE []⟩ 100000 Tryz.prog.globals.size e350 = true := by decide +kernel
theorem c367 : enOk ⟨fnOf Tryz.prog, memoE [e359, e360, e366]⟩ 100000 Tryz.prog.globals.size e367 = true := by decide +kernel
end Go.Am
