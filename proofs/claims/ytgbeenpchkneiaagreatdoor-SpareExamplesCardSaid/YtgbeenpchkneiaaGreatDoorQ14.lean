/- Entries, by evaluation in the kernel. -/
import Derived.Test.YtgbeenpchkneiaaGreatDoorE2
import Derived.Test.YtgbeenpchkneiaaGreatDoorRows
namespace Go.Am
open Go Go.Proofs
theorem c7 : enOk ⟨fnOf Tryz.prog, memoE []⟩ 100000 Tryz.prog.globals.size e7 = true := by decide +kernel
theorem c43 : enOk ⟨fnOf Tryz.prog, memoE []⟩ 100000 Tryz.prog.globals.size e43 = true := by decide +kernel
theorem c72 : enOk ⟨fnOf Tryz.prog, memoE []⟩ 100000 Tryz.prog.globals.size e72 = true := by decide +kernel
theorem c123 : enOk ⟨fnOf Tryz.prog, memoE []⟩ 100000 Tryz.prog.globals.size e123 = true := by decide +kernel
theorem c147 : enOk ⟨fnOf Tryz.prog, memoE []⟩ 100000 Tryz.prog.globals.size e147 = true := by decide +kernel
theorem c184 : enOk ⟨fnOf Tryz.prog, memoE []⟩ 100000 Tryz.prog.globals.size e184 = true := by decide +kernel
theorem c215 : enOk ⟨fnOf Tryz.prog, memoE [e95, e212, e206, e207, e213]⟩ 100000 Tryz.prog.globals.size e215 = true := by decide +kernel
theorem c225 : enOk ⟨fnOf Tryz.prog, memoE [e224]⟩ 100000 Tryz.prog.globals.size e225 = true := by decide +kernel
theorem c249 : enOk ⟨fnOf Tryz.prog, memoE [e248]⟩ 100000 Tryz.prog.globals.size e249 = true := by decide +kernel
theorem c272 : enOk ⟨fnOf Tryz.prog, memoE [e155, e64, e156, e115, e157, e158, e120, e159, e160, e161, e162, e166, e163]⟩ 100000 Tryz.prog.globals.size e272 = true := by decide +kernel
theorem c299 : enOk ⟨fnOf Tryz.prog, memoE [e287, e136, e137, e255, e288, e260, e169, e262, e289, e266, e165, e290, e168, e291, e195, e292, e197, e293, e268, e294, e273, e295, e276, e296, e280, e297, e298]⟩ 100000 Tryz.prog.globals.size e299 = true := by decide +kernel
theorem c320 : enOk ⟨fnOf Tryz.prog, memoE [e319]⟩ 100000 Tryz.prog.globals.size e320 = true := by decide +kernel
theorem c343 : enOk ⟨fnOf Tryz.prog, memoE [e95, e284, e342]⟩ 100000 Tryz.prog.globals.size e343 = true := by decide +kernel
theorem c357 : enOk ⟨fnOf Tryz.prog, memoE [e355, e356, e166]⟩ 100000 Tryz.prog.globals.size e357 = true := by decide +kernel
theorem c370 : enOk ⟨fnOf Tryz.prog, memoE [e107, e136, e137, e332, e169, e334]⟩ 100000 Tryz.prog.globals.size e370 = true := by decide +kernel
end Go.Am
