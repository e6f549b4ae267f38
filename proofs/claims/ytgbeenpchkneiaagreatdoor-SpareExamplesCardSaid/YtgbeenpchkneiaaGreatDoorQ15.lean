/- Entries, by evaluation in the kernel. -/
import Derived.Test.YtgbeenpchkneiaaGreatDoorE2
import Derived.Test.YtgbeenpchkneiaaGreatDoorRows
namespace Go.Am
open Go Go.Proofs
theorem c21 : enOk ⟨fnOf Tryz.prog, memoE []⟩ 100000 Tryz.prog.globals.size e21 = true := by decide +kernel
theorem c54 : enOk ⟨fnOf Tryz.prog, memoE []⟩ 100000 Tryz.prog.globals.size e54 = true := by decide +kernel
theorem c67 : enOk ⟨fnOf Tryz.prog, memoE [e65, e66]⟩ 100000 Tryz.prog.globals.size e67 = true := by decide +kernel
theorem c87 : enOk ⟨fnOf Tryz.prog, memoE []⟩ 100000 Tryz.prog.globals.size e87 = true := by decide +kernel
theorem c107 : enOk ⟨fnOf Tryz.prog, memoE [e104, e105, e106]⟩ 100000 Tryz.prog.globals.size e107 = true := by decide +kernel
theorem c151 : enOk ⟨fnOf Tryz.prog, memoE []⟩ 100000 Tryz.prog.globals.size e151 = true := by decide +kernel
theorem c192 : enOk ⟨fnOf Tryz.prog, memoE [e64, e170, e171, e172, e173, e174, e175, e176, e177, e178, e179, e180, e181, e182, e183, e184, e185, e122, e132, e123]⟩ 100000 Tryz.prog.globals.size e192 = true := by decide +kernel
theorem c233 : enOk ⟨fnOf Tryz.prog, memoE [e232]⟩ 100000 Tryz.prog.globals.size e233 = true := by decide +kernel
theorem c257 : enOk ⟨fnOf Tryz.prog, memoE [e64, e67, e68, e70, e75, e76, e77, e78, e79, e82, e83, e85, e90, e91, e92, e93, e94, e109, e110]⟩ 100000 Tryz.prog.globals.size e257 = true := by decide +kernel
theorem c265 : enOk ⟨fnOf Tryz.prog, memoE [e187, e64, e188, e115, e189, e190, e120, e191, e192, e134, e193, e162, e166, e163]⟩ 100000 Tryz.prog.globals.size e265 = true := by decide +kernel
theorem c271 : enOk ⟨fnOf Tryz.prog, memoE [e95, e205, e269, e207, e270]⟩ 100000 Tryz.prog.globals.size e271 = true := by decide +kernel
theorem c273 : enOk ⟨fnOf Tryz.prog, memoE [e272]⟩ 100000 Tryz.prog.globals.size e273 = true := by decide +kernel
theorem c282 : enOk ⟨fnOf Tryz.prog, memoE [e202, e136, e137, e255, e258, e260, e169, e262, e264, e266, e165, e209, e168, e210, e195, e214, e197, e215, e268, e271, e273, e274, e276, e278, e280, e281]⟩ 100000 Tryz.prog.globals.size e282 = true := by decide +kernel
theorem c323 : enOk ⟨fnOf Tryz.prog, memoE []⟩ 100000 Tryz.prog.globals.size e323 = true := by decide +kernel
theorem c362 : enOk ⟨fnOf Tryz.prog, memoE []⟩ 100000 Tryz.prog.globals.size e362 = true := by decide +kernel
end Go.Am
