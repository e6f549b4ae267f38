/- Entries, by evaluation in the kernel. -/
import Derived.Test.YtgbeenpchkneiaaGreatDoorE2
import Derived.Test.YtgbeenpchkneiaaGreatDoorRows
namespace Go.Am
open Go Go.Proofs
theorem c20 : enOk ⟨fnOf Tryz.prog, memoE [e5]⟩ 100000 Tryz.prog.globals.size e20 = true := by decide +kernel
theorem c44 : enOk ⟨fnOf Tryz.prog, memoE [e22, e3]⟩ 100000 Tryz.prog.globals.size e44 = true := by decide +kernel
theorem c53 : enOk ⟨fnOf Tryz.prog, memoE []⟩ 100000 Tryz.prog.globals.size e53 = true := by decide +kernel
theorem c86 : enOk ⟨fnOf Tryz.prog, memoE []⟩ 100000 Tryz.prog.globals.size e86 = true := by decide +kernel
theorem c104 : enOk ⟨fnOf Tryz.prog, memoE [e95, e96, e97, e98, e99, e102, e103]⟩ 100000 Tryz.prog.globals.size e104 = true := by decide +kernel
theorem c134 : enOk ⟨fnOf Tryz.prog, memoE [e1, e4, e6, e11, e12, e13, e15, e17, e18, e19, e20, e23, e24, e25, e27, e28, e32, e33, e34, e35, e39, e40, e41, e42, e43, e44, e46, e47, e48, e49, e50, e51, e52, e53, e54, e55, e56, e57, e58, e59, e60, e61, e62, e63, e86, e87, e112, e71, e72, e113, e114]⟩ 100000 Tryz.prog.globals.size e134 = true := by decide +kernel
theorem c150 : enOk ⟨fnOf Tryz.prog, memoE []⟩ 100000 Tryz.prog.globals.size e150 = true := by decide +kernel
theorem c232 : enOk ⟨fnOf Tryz.prog, memoE []⟩ 100000 Tryz.prog.globals.size e232 = true := by decide +kernel
theorem c267 : enOk ⟨fnOf Tryz.prog, memoE [e155, e64, e156, e115, e157, e158, e120, e159, e160, e161, e162, e102, e163]⟩ 100000 Tryz.prog.globals.size e267 = true := by decide +kernel
theorem c268 : enOk ⟨fnOf Tryz.prog, memoE [e267]⟩ 100000 Tryz.prog.globals.size e268 = true := by decide +kernel
theorem c277 : enOk ⟨fnOf Tryz.prog, memoE [e64, e67, e68, e70, e75, e76, e77, e78, e79, e82, e83, e85, e90, e91, e92, e93, e94, e122, e123, e132]⟩ 100000 Tryz.prog.globals.size e277 = true := by decide +kernel
theorem c286 : enOk ⟨fnOf Tryz.prog, memoE [e95, e284, e285]⟩ 100000 Tryz.prog.globals.size e286 = true := by decide +kernel
theorem c298 : enOk ⟨fnOf Tryz.prog, memoE []⟩ 100000 Tryz.prog.globals.size e298 = true := by decide +kernel
theorem c348 : enOk ⟨fnOf Tryz.prog, memoE [e347]⟩ 100000 Tryz.prog.globals.size e348 = true := by decide +kernel
end Go.Am
