/- Entries, by evaluation in the kernel. -/
import Derived.Test.YtgbeenpchkneiaaGreatDoorE2
import Derived.Test.YtgbeenpchkneiaaGreatDoorRows
namespace Go.Am
open Go Go.Proofs
theorem c15 : enOk ⟨fnOf Tryz.prog, memoE [e14]⟩ 100000 Tryz.prog.globals.size e15 = true := by decide +kernel
theorem c33 : enOk ⟨fnOf Tryz.prog, memoE [e9, e5]⟩ 100000 Tryz.prog.globals.size e33 = true := by decide +kernel
theorem c51 : enOk ⟨fnOf Tryz.prog, memoE []⟩ 100000 Tryz.prog.globals.size e51 = true := by decide +kernel
theorem c81 : enOk ⟨fnOf Tryz.prog, memoE []⟩ 100000 Tryz.prog.globals.size e81 = true := by decide +kernel
theorem c100 : enOk ⟨fnOf Tryz.prog, memoE []⟩ 100000 Tryz.prog.globals.size e100 = true := by decide +kernel
theorem c115 : enOk ⟨fnOf Tryz.prog, memoE [e1, e4, e6, e11, e12, e13, e15, e17, e18, e19, e20, e23, e24, e25, e27, e28, e32, e33, e34, e35, e39, e40, e41, e42, e43, e44, e46, e47, e48, e49, e50, e51, e52, e53, e54, e55, e56, e57, e58, e59, e60, e61, e62, e63, e86, e112, e71, e113, e114]⟩ 100000 Tryz.prog.globals.size e115 = true := by decide +kernel
theorem c143 : enOk ⟨fnOf Tryz.prog, memoE []⟩ 100000 Tryz.prog.globals.size e143 = true := by decide +kernel
theorem c230 : enOk ⟨fnOf Tryz.prog, memoE []⟩ 100000 Tryz.prog.globals.size e230 = true := by decide +kernel
theorem c262 : enOk ⟨fnOf Tryz.prog, memoE [e261]⟩ 100000 Tryz.prog.globals.size e262 = true := by decide +kernel
theorem c283 : enOk ⟨fnOf Tryz.prog, memoE []⟩ 100000 Tryz.prog.globals.size e283 = true := by decide +kernel
theorem c284 : enOk ⟨fnOf Tryz.prog, memoE []⟩ 100000 Tryz.prog.globals.size e284 = true := by decide +kernel
theorem c300 : enOk ⟨fnOf Tryz.prog, memoE [e107, e136]⟩ 100000 Tryz.prog.globals.size e300 = true := by decide +kernel
theorem c333 : enOk ⟨fnOf Tryz.prog, memoE [e187, e64, e188, e115, e189, e190, e120, e191, e192, e134, e193, e162, e325, e163]⟩ 100000 Tryz.prog.globals.size e333 = true := by decide +kernel
theorem c368 : enOk ⟨fnOf Tryz.prog, memoE [e107, e136, e324, e137, e332, e169, e334]⟩ 100000 Tryz.prog.globals.size e368 = true := by decide +kernel
end Go.Am
