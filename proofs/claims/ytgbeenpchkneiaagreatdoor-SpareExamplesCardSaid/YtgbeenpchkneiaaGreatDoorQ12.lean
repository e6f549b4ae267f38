/- Entries, by evaluation in the kernel. -/
import Derived.Test.YtgbeenpchkneiaaGreatDoorE2
import Derived.Test.YtgbeenpchkneiaaGreatDoorRows
namespace Go.Am
open Go Go.Proofs
theorem c31 : enOk ⟨fnOf Tryz.prog, memoE [e30]⟩ 100000 Tryz.prog.globals.size e31 = true := by decide +kernel
theorem c45 : enOk ⟨fnOf Tryz.prog, memoE []⟩ 100000 Tryz.prog.globals.size e45 = true := by decide +kernel
theorem c68 : enOk ⟨fnOf Tryz.prog, memoE []⟩ 100000 Tryz.prog.globals.size e68 = true := by decide +kernel
theorem c95 : enOk ⟨fnOf Tryz.prog, memoE [e64, e67, e68, e70, e75, e76, e77, e78, e79, e82, e83, e85, e90, e91, e92, e93, e94]⟩ 100000 Tryz.prog.globals.size e95 = true := by decide +kernel
theorem c112 : enOk ⟨fnOf Tryz.prog, memoE []⟩ 100000 Tryz.prog.globals.size e112 = true := by decide +kernel
theorem c116 : enOk ⟨fnOf Tryz.prog, memoE [e64, e67, e68, e70, e75, e76, e77, e78, e79, e82, e83, e85, e90, e91, e92, e93, e94, e109, e110]⟩ 100000 Tryz.prog.globals.size e116 = true := by decide +kernel
theorem c148 : enOk ⟨fnOf Tryz.prog, memoE [e84]⟩ 100000 Tryz.prog.globals.size e148 = true := by decide +kernel
theorem c202 : enOk ⟨fnOf Tryz.prog, memoE [e104, e105, e201]⟩ 100000 Tryz.prog.globals.size e202 = true := by decide +kernel
theorem c204 : enOk ⟨fnOf Tryz.prog, memoE []⟩ 100000 Tryz.prog.globals.size e204 = true := by decide +kernel
theorem c243 : enOk ⟨fnOf Tryz.prog, memoE [e242]⟩ 100000 Tryz.prog.globals.size e243 = true := by decide +kernel
theorem c253 : enOk ⟨fnOf Tryz.prog, memoE [e107, e136, e137, e165, e168, e169, e195, e197, e220, e221, e222, e223, e225, e227, e229, e231, e233, e235, e236, e238, e240, e241, e243, e245, e247, e249, e250, e251]⟩ 100000 Tryz.prog.globals.size e253 = true := by decide +kernel
theorem c254 : enOk ⟨fnOf Tryz.prog, memoE [e155, e64, e156, e115, e157, e158, e120, e159, e160, e161, e162, e102, e163]⟩ 100000 Tryz.prog.globals.size e254 = true := by decide +kernel
theorem c264 : enOk ⟨fnOf Tryz.prog, memoE [e95, e212, e256, e207, e263]⟩ 100000 Tryz.prog.globals.size e264 = true := by decide +kernel
theorem c306 : enOk ⟨fnOf Tryz.prog, memoE [e305]⟩ 100000 Tryz.prog.globals.size e306 = true := by decide +kernel
theorem c341 : enOk ⟨fnOf Tryz.prog, memoE [e340]⟩ 100000 Tryz.prog.globals.size e341 = true := by decide +kernel
end Go.Am
