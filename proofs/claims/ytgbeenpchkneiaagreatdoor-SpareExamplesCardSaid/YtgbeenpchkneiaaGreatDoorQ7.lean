/- Entries, by evaluation in the kernel. -/
import Derived.Test.YtgbeenpchkneiaaGreatDoorE2
import Derived.Test.YtgbeenpchkneiaaGreatDoorRows
namespace Go.Am
open Go Go.Proofs
theorem c4 : enOk ⟨fnOf Tryz.prog, memoE [e2, e3]⟩ 100000 Tryz.prog.globals.size e4 = true := by decide +kernel
theorem c5 : enOk ⟨fnOf Tryz.prog, memoE []⟩ 100000 Tryz.prog.globals.size e5 = true := by decide +kernel
theorem c39 : enOk ⟨fnOf Tryz.prog, memoE [e38]⟩ 100000 Tryz.prog.globals.size e39 = true := by decide +kernel
theorem c69 : enOk ⟨fnOf Tryz.prog, memoE []⟩ 100000 Tryz.prog.globals.size e69 = true := by decide +kernel
theorem c118 : enOk ⟨fnOf Tryz.prog, memoE []⟩ 100000 Tryz.prog.globals.size e118 = true := by decide +kernel
theorem c139 : enOk ⟨fnOf Tryz.prog, memoE []⟩ 100000 Tryz.prog.globals.size e139 = true := by decide +kernel
theorem c159 : enOk ⟨fnOf Tryz.prog, memoE [e64, e138, e139, e140, e141, e142, e143, e144, e145, e146, e147, e148, e149, e150, e151, e152, e153, e117, e118]⟩ 100000 Tryz.prog.globals.size e159 = true := by decide +kernel
theorem c178 : enOk ⟨fnOf Tryz.prog, memoE [e80, e81]⟩ 100000 Tryz.prog.globals.size e178 = true := by decide +kernel
theorem c218 : enOk ⟨fnOf Tryz.prog, memoE []⟩ 100000 Tryz.prog.globals.size e218 = true := by decide +kernel
theorem c219 : enOk ⟨fnOf Tryz.prog, memoE [e64, e117]⟩ 100000 Tryz.prog.globals.size e219 = true := by decide +kernel
theorem c220 : enOk ⟨fnOf Tryz.prog, memoE [e95, e205, e206, e218, e219]⟩ 100000 Tryz.prog.globals.size e220 = true := by decide +kernel
theorem c247 : enOk ⟨fnOf Tryz.prog, memoE [e246]⟩ 100000 Tryz.prog.globals.size e247 = true := by decide +kernel
theorem c310 : enOk ⟨fnOf Tryz.prog, memoE [e302, e303]⟩ 100000 Tryz.prog.globals.size e310 = true := by decide +kernel
theorem c331 : enOk ⟨fnOf Tryz.prog, memoE [e155, e64, e156, e115, e157, e158, e120, e159, e160, e161, e162, e325, e163]⟩ 100000 Tryz.prog.globals.size e331 = true := by decide +kernel
theorem c358 : enOk ⟨fnOf Tryz.prog, memoE [e95, e96, e97, e98, e99, e102, e103, e357]⟩ 100000 Tryz.prog.globals.size e358 = true := by decide +kernel
theorem c366 : enOk ⟨fnOf Tryz.prog, memoE [e1, e4, e6, e11, e12, e13, e15, e17, e18, e19, e20, e23, e24, e25, e27, e28, e32, e33, e34, e35, e39, e40, e41, e42, e43, e44, e46, e47, e48, e49, e50, e51, e52, e53, e54, e55, e56, e57, e58, e59, e60, e61, e62, e63, e363, e364, e365]⟩ 100000 Tryz.prog.globals.size e366 = true := by decide +kernel
end Go.Am
