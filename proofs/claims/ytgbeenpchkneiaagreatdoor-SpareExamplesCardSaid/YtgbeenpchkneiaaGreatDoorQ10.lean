/- Entries, by evaluation in the kernel. -/
import Derived.Test.YtgbeenpchkneiaaGreatDoorE2
import Derived.Test.YtgbeenpchkneiaaGreatDoorRows
namespace Go.Am
open Go Go.Proofs
theorem c2 : enOk ⟨fnOf Tryz.prog, memoE []⟩ 100000 Tryz.prog.globals.size e2 = true := by decide +kernel
theorem c24 : enOk ⟨fnOf Tryz.prog, memoE []⟩ 100000 Tryz.prog.globals.size e24 = true := by decide +kernel
theorem c37 : enOk ⟨fnOf Tryz.prog, memoE [e36]⟩ 100000 Tryz.prog.globals.size e37 = true := by decide +kernel
theorem c62 : enOk ⟨fnOf Tryz.prog, memoE []⟩ 100000 Tryz.prog.globals.size e62 = true := by decide +kernel
theorem c109 : enOk ⟨fnOf Tryz.prog, memoE []⟩ 100000 Tryz.prog.globals.size e109 = true := by decide +kernel
theorem c170 : enOk ⟨fnOf Tryz.prog, memoE [e65, e66]⟩ 100000 Tryz.prog.globals.size e170 = true := by decide +kernel
theorem c201 : enOk ⟨fnOf Tryz.prog, memoE []⟩ 100000 Tryz.prog.globals.size e201 = true := by decide +kernel
theorem c241 : enOk ⟨fnOf Tryz.prog, memoE []⟩ 100000 Tryz.prog.globals.size e241 = true := by decide +kernel
theorem c258 : enOk ⟨fnOf Tryz.prog, memoE [e95, e205, e256, e207, e257]⟩ 100000 Tryz.prog.globals.size e258 = true := by decide +kernel
theorem c259 : enOk ⟨fnOf Tryz.prog, memoE [e155, e64, e156, e115, e157, e158, e120, e159, e160, e161, e162, e166, e163]⟩ 100000 Tryz.prog.globals.size e259 = true := by decide +kernel
theorem c270 : enOk ⟨fnOf Tryz.prog, memoE [e64, e67, e68, e70, e75, e76, e77, e78, e79, e82, e83, e85, e90, e91, e92, e93, e94, e122, e123]⟩ 100000 Tryz.prog.globals.size e270 = true := by decide +kernel
theorem c304 : enOk ⟨fnOf Tryz.prog, memoE [e302, e303]⟩ 100000 Tryz.prog.globals.size e304 = true := by decide +kernel
theorem c317 : enOk ⟨fnOf Tryz.prog, memoE [e316]⟩ 100000 Tryz.prog.globals.size e317 = true := by decide +kernel
theorem c346 : enOk ⟨fnOf Tryz.prog, memoE [e1, e4, e6, e11, e12, e13, e15, e17, e18, e19, e20, e23, e24, e25, e27, e28, e32, e33, e34, e35, e39, e40, e41, e42, e43, e44, e46, e47, e48, e49, e50, e51, e52, e53, e54, e55, e56, e57, e58, e59, e60, e61, e62, e63]⟩ 100000 Tryz.prog.globals.size e346 = true := by decide +kernel
theorem c351 : enOk ⟨fnOf Tryz.prog, memoE [e104, e105, e350]⟩ 100000 Tryz.prog.globals.size e351 = true := by decide +kernel
theorem c354 : enOk ⟨fnOf Tryz.prog, memoE [e107]⟩ 100000 Tryz.prog.globals.size e354 = true := by decide +kernel
end Go.Am
