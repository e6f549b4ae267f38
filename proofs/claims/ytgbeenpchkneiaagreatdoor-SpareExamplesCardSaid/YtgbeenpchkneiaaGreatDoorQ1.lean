/- Entries, by evaluation in the kernel. -/
import Derived.Test.YtgbeenpchkneiaaGreatDoorE2
import Derived.Test.YtgbeenpchkneiaaGreatDoorRows
namespace Go.Am
open Go Go.Proofs
theorem c14 : enOk ⟨fnOf Tryz.prog, memoE []⟩ 100000 Tryz.prog.globals.size e14 = true := by decide +kernel
theorem c25 : enOk ⟨fnOf Tryz.prog, memoE [e9, e3]⟩ 100000 Tryz.prog.globals.size e25 = true := by decide +kernel
theorem c50 : enOk ⟨fnOf Tryz.prog, memoE []⟩ 100000 Tryz.prog.globals.size e50 = true := by decide +kernel
theorem c80 : enOk ⟨fnOf Tryz.prog, memoE []⟩ 100000 Tryz.prog.globals.size e80 = true := by decide +kernel
theorem c90 : enOk ⟨fnOf Tryz.prog, memoE [e89]⟩ 100000 Tryz.prog.globals.size e90 = true := by decide +kernel
theorem c120 : enOk ⟨fnOf Tryz.prog, memoE [e1, e4, e6, e11, e12, e13, e15, e17, e18, e19, e20, e23, e24, e25, e27, e28, e32, e33, e34, e35, e39, e40, e41, e42, e43, e44, e46, e47, e48, e49, e50, e51, e52, e53, e54, e55, e56, e57, e58, e59, e60, e61, e62, e63, e86, e112, e71, e72, e113, e114]⟩ 100000 Tryz.prog.globals.size e120 = true := by decide +kernel
theorem c142 : enOk ⟨fnOf Tryz.prog, memoE []⟩ 100000 Tryz.prog.globals.size e142 = true := by decide +kernel
theorem c164 : enOk ⟨fnOf Tryz.prog, memoE [e155, e64, e156, e115, e157, e158, e120, e159, e160, e161, e162, e102, e163]⟩ 100000 Tryz.prog.globals.size e164 = true := by decide +kernel
theorem c200 : enOk ⟨fnOf Tryz.prog, memoE []⟩ 100000 Tryz.prog.globals.size e200 = true := by decide +kernel
theorem c229 : enOk ⟨fnOf Tryz.prog, memoE [e228]⟩ 100000 Tryz.prog.globals.size e229 = true := by decide +kernel
theorem c260 : enOk ⟨fnOf Tryz.prog, memoE [e259]⟩ 100000 Tryz.prog.globals.size e260 = true := by decide +kernel
theorem c269 : enOk ⟨fnOf Tryz.prog, memoE []⟩ 100000 Tryz.prog.globals.size e269 = true := by decide +kernel
theorem c335 : enOk ⟨fnOf Tryz.prog, memoE [e107, e136, e137, e332, e169, e334]⟩ 100000 Tryz.prog.globals.size e335 = true := by decide +kernel
theorem c373 : enOk ⟨fnOf Tryz.prog, memoE [e107, e136]⟩ 100000 Tryz.prog.globals.size e373 = true := by decide +kernel
end Go.Am
