/- Entries, by evaluation in the kernel. -/
import Derived.Test.YtgbeenpchkneiaaGreatDoorE2
import Derived.Test.YtgbeenpchkneiaaGreatDoorRows
namespace Go.Am
open Go Go.Proofs
theorem c0 : enOk ⟨fnOf Tryz.prog, memoE []⟩ 100000 Tryz.prog.globals.size e0 = true := by decide +kernel
theorem c22 : enOk ⟨fnOf Tryz.prog, memoE []⟩ 100000 Tryz.prog.globals.size e22 = true := by decide +kernel
theorem c55 : enOk ⟨fnOf Tryz.prog, memoE []⟩ 100000 Tryz.prog.globals.size e55 = true := by decide +kernel
theorem c70 : enOk ⟨fnOf Tryz.prog, memoE [e69]⟩ 100000 Tryz.prog.globals.size e70 = true := by decide +kernel
theorem c91 : enOk ⟨fnOf Tryz.prog, memoE []⟩ 100000 Tryz.prog.globals.size e91 = true := by decide +kernel
theorem c141 : enOk ⟨fnOf Tryz.prog, memoE [e74]⟩ 100000 Tryz.prog.globals.size e141 = true := by decide +kernel
theorem c153 : enOk ⟨fnOf Tryz.prog, memoE []⟩ 100000 Tryz.prog.globals.size e153 = true := by decide +kernel
theorem c189 : enOk ⟨fnOf Tryz.prog, memoE [e64, e170, e171, e172, e173, e174, e175, e176, e177, e178, e179, e180, e181, e182, e183, e184, e185, e109, e110]⟩ 100000 Tryz.prog.globals.size e189 = true := by decide +kernel
theorem c190 : enOk ⟨fnOf Tryz.prog, memoE [e64, e170, e171, e172, e173, e174, e175, e176, e177, e178, e179, e180, e181, e182, e183, e184, e185, e117, e129, e118]⟩ 100000 Tryz.prog.globals.size e190 = true := by decide +kernel
theorem c214 : enOk ⟨fnOf Tryz.prog, memoE [e95, e212, e206, e207, e213]⟩ 100000 Tryz.prog.globals.size e214 = true := by decide +kernel
theorem c234 : enOk ⟨fnOf Tryz.prog, memoE []⟩ 100000 Tryz.prog.globals.size e234 = true := by decide +kernel
theorem c276 : enOk ⟨fnOf Tryz.prog, memoE [e275]⟩ 100000 Tryz.prog.globals.size e276 = true := by decide +kernel
theorem c279 : enOk ⟨fnOf Tryz.prog, memoE [e187, e64, e188, e115, e189, e190, e120, e191, e192, e134, e193, e162, e166, e163]⟩ 100000 Tryz.prog.globals.size e279 = true := by decide +kernel
theorem c290 : enOk ⟨fnOf Tryz.prog, memoE [e95, e284, e285, e205, e206, e207, e208]⟩ 100000 Tryz.prog.globals.size e290 = true := by decide +kernel
theorem c291 : enOk ⟨fnOf Tryz.prog, memoE [e95, e284, e285, e205, e206, e207, e208]⟩ 100000 Tryz.prog.globals.size e291 = true := by decide +kernel
theorem c342 : enOk ⟨fnOf Tryz.prog, memoE []⟩ 100000 Tryz.prog.globals.size e342 = true := by decide +kernel
theorem c363 : enOk ⟨fnOf Tryz.prog, memoE []⟩ 100000 Tryz.prog.globals.size e363 = true := by decide +kernel
end Go.Am
