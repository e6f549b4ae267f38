/- Entries, by evaluation in the kernel. -/
import Derived.Test.YtgbeenpchkneiaaGreatDoorE2
import Derived.Test.YtgbeenpchkneiaaGreatDoorRows
namespace Go.Am
open Go Go.Proofs
theorem c11 : enOk ⟨fnOf Tryz.prog, memoE [e7, e8, e9, e10]⟩ 100000 Tryz.prog.globals.size e11 = true := by decide +kernel
theorem c12 : enOk ⟨fnOf Tryz.prog, memoE []⟩ 100000 Tryz.prog.globals.size e12 = true := by decide +kernel
theorem c34 : enOk ⟨fnOf Tryz.prog, memoE [e26]⟩ 100000 Tryz.prog.globals.size e34 = true := by decide +kernel
theorem c57 : enOk ⟨fnOf Tryz.prog, memoE []⟩ 100000 Tryz.prog.globals.size e57 = true := by decide +kernel
theorem c103 : enOk ⟨fnOf Tryz.prog, memoE []⟩ 100000 Tryz.prog.globals.size e103 = true := by decide +kernel
theorem c140 : enOk ⟨fnOf Tryz.prog, memoE [e69]⟩ 100000 Tryz.prog.globals.size e140 = true := by decide +kernel
theorem c158 : enOk ⟨fnOf Tryz.prog, memoE [e64, e138, e139, e140, e141, e142, e143, e144, e145, e146, e147, e148, e149, e150, e151, e152, e153, e117, e118]⟩ 100000 Tryz.prog.globals.size e158 = true := by decide +kernel
theorem c181 : enOk ⟨fnOf Tryz.prog, memoE [e89]⟩ 100000 Tryz.prog.globals.size e181 = true := by decide +kernel
theorem c183 : enOk ⟨fnOf Tryz.prog, memoE []⟩ 100000 Tryz.prog.globals.size e183 = true := by decide +kernel
theorem c209 : enOk ⟨fnOf Tryz.prog, memoE [e95, e205, e206, e207, e208]⟩ 100000 Tryz.prog.globals.size e209 = true := by decide +kernel
theorem c217 : enOk ⟨fnOf Tryz.prog, memoE [e202, e136, e137, e165, e168, e169, e195, e197, e209, e210, e214, e215]⟩ 100000 Tryz.prog.globals.size e217 = true := by decide +kernel
theorem c239 : enOk ⟨fnOf Tryz.prog, memoE []⟩ 100000 Tryz.prog.globals.size e239 = true := by decide +kernel
theorem c263 : enOk ⟨fnOf Tryz.prog, memoE [e64, e67, e68, e70, e75, e76, e77, e78, e79, e82, e83, e85, e90, e91, e92, e93, e94, e109, e110, e126]⟩ 100000 Tryz.prog.globals.size e263 = true := by decide +kernel
theorem c293 : enOk ⟨fnOf Tryz.prog, memoE [e95, e284, e285, e212, e206, e207, e213]⟩ 100000 Tryz.prog.globals.size e293 = true := by decide +kernel
theorem c315 : enOk ⟨fnOf Tryz.prog, memoE [e95, e212, e256, e218, e313]⟩ 100000 Tryz.prog.globals.size e315 = true := by decide +kernel
theorem c332 : enOk ⟨fnOf Tryz.prog, memoE [e331]⟩ 100000 Tryz.prog.globals.size e332 = true := by decide +kernel
theorem c365 : enOk ⟨fnOf Tryz.prog, memoE []⟩ 100000 Tryz.prog.globals.size e365 = true := by decide +kernel
end Go.Am
