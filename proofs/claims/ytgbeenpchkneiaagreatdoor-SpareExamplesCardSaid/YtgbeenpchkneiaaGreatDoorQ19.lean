/- Entries, by evaluation in the kernel. -/
import Derived.Test.YtgbeenpchkneiaaGreatDoorE2
import Derived.Test.YtgbeenpchkneiaaGreatDoorRows
namespace Go.Am
open Go Go.Proofs
theorem c30 : enOk ⟨fnOf Tryz.prog, memoE [e29]⟩ 100000 Tryz.prog.globals.size e30 = true := by decide +kernel
theorem c60 : enOk ⟨fnOf Tryz.prog, memoE []⟩ 100000 Tryz.prog.globals.size e60 = true := by decide +kernel
theorem c99 : enOk ⟨fnOf Tryz.prog, memoE []⟩ 100000 Tryz.prog.globals.size e99 = true := by decide +kernel
theorem c138 : enOk ⟨fnOf Tryz.prog, memoE [e65, e66]⟩ 100000 Tryz.prog.globals.size e138 = true := by decide +kernel
theorem c161 : enOk ⟨fnOf Tryz.prog, memoE [e64, e138, e139, e140, e141, e142, e143, e144, e145, e146, e147, e148, e149, e150, e151, e152, e153, e122, e123]⟩ 100000 Tryz.prog.globals.size e161 = true := by decide +kernel
theorem c173 : enOk ⟨fnOf Tryz.prog, memoE [e74]⟩ 100000 Tryz.prog.globals.size e173 = true := by decide +kernel
theorem c182 : enOk ⟨fnOf Tryz.prog, memoE []⟩ 100000 Tryz.prog.globals.size e182 = true := by decide +kernel
theorem c188 : enOk ⟨fnOf Tryz.prog, memoE [e64, e170, e171, e172, e173, e174, e175, e176, e177, e178, e179, e180, e181, e182, e183, e184, e185, e109, e126, e110]⟩ 100000 Tryz.prog.globals.size e188 = true := by decide +kernel
theorem c196 : enOk ⟨fnOf Tryz.prog, memoE [e187, e64, e188, e115, e189, e190, e120, e191, e192, e134, e193, e162, e166, e163]⟩ 100000 Tryz.prog.globals.size e196 = true := by decide +kernel
theorem c238 : enOk ⟨fnOf Tryz.prog, memoE [e237]⟩ 100000 Tryz.prog.globals.size e238 = true := by decide +kernel
theorem c292 : enOk ⟨fnOf Tryz.prog, memoE [e95, e284, e285, e212, e206, e207, e213]⟩ 100000 Tryz.prog.globals.size e292 = true := by decide +kernel
theorem c302 : enOk ⟨fnOf Tryz.prog, memoE []⟩ 100000 Tryz.prog.globals.size e302 = true := by decide +kernel
theorem c316 : enOk ⟨fnOf Tryz.prog, memoE [e107, e136, e137, e255, e260, e169, e262, e266, e314, e315]⟩ 100000 Tryz.prog.globals.size e316 = true := by decide +kernel
theorem c321 : enOk ⟨fnOf Tryz.prog, memoE [e0, e320]⟩ 100000 Tryz.prog.globals.size e321 = true := by decide +kernel
theorem c329 : enOk ⟨fnOf Tryz.prog, memoE [e328]⟩ 100000 Tryz.prog.globals.size e329 = true := by decide +kernel
theorem c356 : enOk ⟨fnOf Tryz.prog, memoE []⟩ 100000 Tryz.prog.globals.size e356 = true := by decide +kernel
theorem c360 : enOk ⟨fnOf Tryz.prog, memoE [e358, e108, e64, e111, e115, e116, e119, e120, e121, e124, e125, e127, e128, e130, e131, e133, e134, e135]⟩ 100000 Tryz.prog.globals.size e360 = true := by decide +kernel
end Go.Am
