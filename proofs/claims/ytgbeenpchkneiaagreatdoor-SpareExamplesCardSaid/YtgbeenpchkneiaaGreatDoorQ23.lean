/- Entries, by evaluation in the kernel. -/
import Derived.Test.YtgbeenpchkneiaaGreatDoorE2
import Derived.Test.YtgbeenpchkneiaaGreatDoorRows
namespace Go.Am
open Go Go.Proofs
theorem c35 : enOk ⟨fnOf Tryz.prog, memoE []⟩ 100000 Tryz.prog.globals.size e35 = true := by decide +kernel
theorem c65 : enOk ⟨fnOf Tryz.prog, memoE []⟩ 100000 Tryz.prog.globals.size e65 = true := by decide +kernel
theorem c83 : enOk ⟨fnOf Tryz.prog, memoE []⟩ 100000 Tryz.prog.globals.size e83 = true := by decide +kernel
theorem c114 : enOk ⟨fnOf Tryz.prog, memoE []⟩ 100000 Tryz.prog.globals.size e114 = true := by decide +kernel
theorem c156 : enOk ⟨fnOf Tryz.prog, memoE [e64, e138, e139, e140, e141, e142, e143, e144, e145, e146, e147, e148, e149, e150, e151, e152, e153, e109, e110]⟩ 100000 Tryz.prog.globals.size e156 = true := by decide +kernel
theorem c165 : enOk ⟨fnOf Tryz.prog, memoE [e164]⟩ 100000 Tryz.prog.globals.size e165 = true := by decide +kernel
theorem c167 : enOk ⟨fnOf Tryz.prog, memoE [e155, e64, e156, e115, e157, e158, e120, e159, e160, e161, e162, e166, e163]⟩ 100000 Tryz.prog.globals.size e167 = true := by decide +kernel
theorem c207 : enOk ⟨fnOf Tryz.prog, memoE []⟩ 100000 Tryz.prog.globals.size e207 = true := by decide +kernel
theorem c212 : enOk ⟨fnOf Tryz.prog, memoE [e64, e67, e68, e70, e75, e76, e77, e78, e79, e82, e83, e85, e90, e91, e92, e93, e94, e203, e204, e211]⟩ 100000 Tryz.prog.globals.size e212 = true := by decide +kernel
theorem c245 : enOk ⟨fnOf Tryz.prog, memoE [e244]⟩ 100000 Tryz.prog.globals.size e245 = true := by decide +kernel
theorem c288 : enOk ⟨fnOf Tryz.prog, memoE [e95, e284, e285, e205, e256, e207, e257]⟩ 100000 Tryz.prog.globals.size e288 = true := by decide +kernel
theorem c297 : enOk ⟨fnOf Tryz.prog, memoE [e95, e284, e285, e212, e269, e207, e277]⟩ 100000 Tryz.prog.globals.size e297 = true := by decide +kernel
theorem c308 : enOk ⟨fnOf Tryz.prog, memoE [e307]⟩ 100000 Tryz.prog.globals.size e308 = true := by decide +kernel
theorem c339 : enOk ⟨fnOf Tryz.prog, memoE []⟩ 100000 Tryz.prog.globals.size e339 = true := by decide +kernel
theorem c340 : enOk ⟨fnOf Tryz.prog, memoE [e107, e136, e137, e165, e168, e169, e195, e197, e220, e221, e222, e223]⟩ 100000 Tryz.prog.globals.size e340 = true := by decide +kernel
theorem c345 : enOk ⟨fnOf Tryz.prog, memoE [e344]⟩ 100000 Tryz.prog.globals.size e345 = true := by decide +kernel
theorem c371 : enOk ⟨fnOf Tryz.prog, memoE [e370]⟩ 100000 Tryz.prog.globals.size e371 = true := by decide +kernel
end Go.Am
