/- Entries, by evaluation in the kernel. -/
import Derived.Test.YtgbeenpchkneiaaGreatDoorE2
import Derived.Test.YtgbeenpchkneiaaGreatDoorRows
namespace Go.Am
open Go Go.Proofs
theorem c16 : enOk ⟨fnOf Tryz.prog, memoE []⟩ 100000 Tryz.prog.globals.size e16 = true := by decide +kernel
theorem c40 : enOk ⟨fnOf Tryz.prog, memoE [e16, e3]⟩ 100000 Tryz.prog.globals.size e40 = true := by decide +kernel
theorem c52 : enOk ⟨fnOf Tryz.prog, memoE []⟩ 100000 Tryz.prog.globals.size e52 = true := by decide +kernel
theorem c84 : enOk ⟨fnOf Tryz.prog, memoE []⟩ 100000 Tryz.prog.globals.size e84 = true := by decide +kernel
theorem c102 : enOk ⟨fnOf Tryz.prog, memoE [e101]⟩ 100000 Tryz.prog.globals.size e102 = true := by decide +kernel
theorem c144 : enOk ⟨fnOf Tryz.prog, memoE []⟩ 100000 Tryz.prog.globals.size e144 = true := by decide +kernel
theorem c210 : enOk ⟨fnOf Tryz.prog, memoE [e95, e205, e206, e207, e208]⟩ 100000 Tryz.prog.globals.size e210 = true := by decide +kernel
theorem c231 : enOk ⟨fnOf Tryz.prog, memoE [e230]⟩ 100000 Tryz.prog.globals.size e231 = true := by decide +kernel
theorem c266 : enOk ⟨fnOf Tryz.prog, memoE [e265]⟩ 100000 Tryz.prog.globals.size e266 = true := by decide +kernel
theorem c285 : enOk ⟨fnOf Tryz.prog, memoE []⟩ 100000 Tryz.prog.globals.size e285 = true := by decide +kernel
theorem c289 : enOk ⟨fnOf Tryz.prog, memoE [e95, e284, e285, e212, e256, e207, e263]⟩ 100000 Tryz.prog.globals.size e289 = true := by decide +kernel
theorem c328 : enOk ⟨fnOf Tryz.prog, memoE [e187, e64, e188, e115, e189, e190, e120, e191, e192, e134, e193, e162, e325, e163]⟩ 100000 Tryz.prog.globals.size e328 = true := by decide +kernel
theorem c330 : enOk ⟨fnOf Tryz.prog, memoE [e107, e136, e137, e327, e169, e329]⟩ 100000 Tryz.prog.globals.size e330 = true := by decide +kernel
theorem c336 : enOk ⟨fnOf Tryz.prog, memoE []⟩ 100000 Tryz.prog.globals.size e336 = true := by decide +kernel
theorem c369 : enOk ⟨fnOf Tryz.prog, memoE [e107, e136]⟩ 100000 Tryz.prog.globals.size e369 = true := by decide +kernel
theorem c372 : enOk ⟨fnOf Tryz.prog, memoE [e202, e136, e137, e165, e168, e169, e195, e197, e209, e210, e214, e215]⟩ 100000 Tryz.prog.globals.size e372 = true := by decide +kernel
end Go.Am
