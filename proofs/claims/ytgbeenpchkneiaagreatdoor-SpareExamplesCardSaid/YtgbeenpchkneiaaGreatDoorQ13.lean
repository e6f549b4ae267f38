/- Entries, by evaluation in the kernel. -/
import Derived.Test.YtgbeenpchkneiaaGreatDoorE2
import Derived.Test.YtgbeenpchkneiaaGreatDoorRows
namespace Go.Am
open Go Go.Proofs
theorem c32 : enOk ⟨fnOf Tryz.prog, memoE [e31]⟩ 100000 Tryz.prog.globals.size e32 = true := by decide +kernel
theorem c46 : enOk ⟨fnOf Tryz.prog, memoE [e45]⟩ 100000 Tryz.prog.globals.size e46 = true := by decide +kernel
theorem c79 : enOk ⟨fnOf Tryz.prog, memoE []⟩ 100000 Tryz.prog.globals.size e79 = true := by decide +kernel
theorem c113 : enOk ⟨fnOf Tryz.prog, memoE []⟩ 100000 Tryz.prog.globals.size e113 = true := by decide +kernel
theorem c125 : enOk ⟨fnOf Tryz.prog, memoE [e64, e67, e68, e70, e75, e76, e77, e78, e79, e82, e83, e85, e90, e91, e92, e93, e94, e122, e123]⟩ 100000 Tryz.prog.globals.size e125 = true := by decide +kernel
theorem c130 : enOk ⟨fnOf Tryz.prog, memoE [e64, e67, e68, e70, e75, e76, e77, e78, e79, e82, e83, e85, e90, e91, e92, e93, e94, e117, e129, e118]⟩ 100000 Tryz.prog.globals.size e130 = true := by decide +kernel
theorem c152 : enOk ⟨fnOf Tryz.prog, memoE []⟩ 100000 Tryz.prog.globals.size e152 = true := by decide +kernel
theorem c186 : enOk ⟨fnOf Tryz.prog, memoE [e64, e170, e171, e172, e173, e174, e175, e176, e177, e178, e179, e180, e181, e182, e183, e184, e185]⟩ 100000 Tryz.prog.globals.size e186 = true := by decide +kernel
theorem c206 : enOk ⟨fnOf Tryz.prog, memoE []⟩ 100000 Tryz.prog.globals.size e206 = true := by decide +kernel
theorem c244 : enOk ⟨fnOf Tryz.prog, memoE []⟩ 100000 Tryz.prog.globals.size e244 = true := by decide +kernel
theorem c252 : enOk ⟨fnOf Tryz.prog, memoE [e107, e136, e137, e165, e168, e169, e195, e197, e220, e221, e222, e223, e225, e227, e229, e231, e233, e235, e236, e238, e240, e241, e243, e245, e247, e249, e250, e251]⟩ 100000 Tryz.prog.globals.size e252 = true := by decide +kernel
theorem c274 : enOk ⟨fnOf Tryz.prog, memoE [e95, e205, e269, e207, e270]⟩ 100000 Tryz.prog.globals.size e274 = true := by decide +kernel
theorem c287 : enOk ⟨fnOf Tryz.prog, memoE [e104, e286, e201]⟩ 100000 Tryz.prog.globals.size e287 = true := by decide +kernel
theorem c307 : enOk ⟨fnOf Tryz.prog, memoE []⟩ 100000 Tryz.prog.globals.size e307 = true := by decide +kernel
theorem c344 : enOk ⟨fnOf Tryz.prog, memoE [e104, e343]⟩ 100000 Tryz.prog.globals.size e344 = true := by decide +kernel
end Go.Am
