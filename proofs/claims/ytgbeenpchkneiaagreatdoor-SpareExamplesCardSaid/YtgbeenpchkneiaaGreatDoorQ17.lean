/- Entries, by evaluation in the kernel. -/
import Derived.Test.YtgbeenpchkneiaaGreatDoorE2
import Derived.Test.YtgbeenpchkneiaaGreatDoorRows
namespace Go.Am
open Go Go.Proofs
theorem c10 : enOk ⟨fnOf Tryz.prog, memoE []⟩ 100000 Tryz.prog.globals.size e10 = true := by decide +kernel
theorem c19 : enOk ⟨fnOf Tryz.prog, memoE [e7, e3]⟩ 100000 Tryz.prog.globals.size e19 = true := by decide +kernel
theorem c49 : enOk ⟨fnOf Tryz.prog, memoE []⟩ 100000 Tryz.prog.globals.size e49 = true := by decide +kernel
theorem c78 : enOk ⟨fnOf Tryz.prog, memoE []⟩ 100000 Tryz.prog.globals.size e78 = true := by decide +kernel
theorem c88 : enOk ⟨fnOf Tryz.prog, memoE []⟩ 100000 Tryz.prog.globals.size e88 = true := by decide +kernel
theorem c132 : enOk ⟨fnOf Tryz.prog, memoE []⟩ 100000 Tryz.prog.globals.size e132 = true := by decide +kernel
theorem c160 : enOk ⟨fnOf Tryz.prog, memoE [e64, e138, e139, e140, e141, e142, e143, e144, e145, e146, e147, e148, e149, e150, e151, e152, e153, e122, e123]⟩ 100000 Tryz.prog.globals.size e160 = true := by decide +kernel
theorem c179 : enOk ⟨fnOf Tryz.prog, memoE []⟩ 100000 Tryz.prog.globals.size e179 = true := by decide +kernel
theorem c205 : enOk ⟨fnOf Tryz.prog, memoE [e64, e67, e68, e70, e75, e76, e77, e78, e79, e82, e83, e85, e90, e91, e92, e93, e94, e203, e204]⟩ 100000 Tryz.prog.globals.size e205 = true := by decide +kernel
theorem c228 : enOk ⟨fnOf Tryz.prog, memoE []⟩ 100000 Tryz.prog.globals.size e228 = true := by decide +kernel
theorem c255 : enOk ⟨fnOf Tryz.prog, memoE [e254]⟩ 100000 Tryz.prog.globals.size e255 = true := by decide +kernel
theorem c256 : enOk ⟨fnOf Tryz.prog, memoE []⟩ 100000 Tryz.prog.globals.size e256 = true := by decide +kernel
theorem c261 : enOk ⟨fnOf Tryz.prog, memoE [e187, e64, e188, e115, e189, e190, e120, e191, e192, e134, e193, e162, e102, e163]⟩ 100000 Tryz.prog.globals.size e261 = true := by decide +kernel
theorem c281 : enOk ⟨fnOf Tryz.prog, memoE [e95, e212, e269, e207, e277]⟩ 100000 Tryz.prog.globals.size e281 = true := by decide +kernel
theorem c319 : enOk ⟨fnOf Tryz.prog, memoE [e107, e136, e137, e165, e233, e168, e235, e169, e195, e243, e197, e245, e221, e223]⟩ 100000 Tryz.prog.globals.size e319 = true := by decide +kernel
theorem c374 : enOk ⟨fnOf Tryz.prog, memoE [e322, e0, e330, e335, e199, e336, e337, e338, e339, e341, e345, e349, e352, e353, e354, e361, e362, e367, e368, e369, e371, e372, e373, e344]⟩ 100000 Tryz.prog.globals.size e374 = true := by decide +kernel
end Go.Am
