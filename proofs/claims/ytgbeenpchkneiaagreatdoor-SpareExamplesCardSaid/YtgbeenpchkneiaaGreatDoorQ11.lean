/- Entries, by evaluation in the kernel. -/
import Derived.Test.YtgbeenpchkneiaaGreatDoorE2
import Derived.Test.YtgbeenpchkneiaaGreatDoorRows
namespace Go.Am
open Go Go.Proofs
theorem c28 : enOk ⟨fnOf Tryz.prog, memoE []⟩ 100000 Tryz.prog.globals.size e28 = true := by decide +kernel
theorem c41 : enOk ⟨fnOf Tryz.prog, memoE [e26]⟩ 100000 Tryz.prog.globals.size e41 = true := by decide +kernel
theorem c63 : enOk ⟨fnOf Tryz.prog, memoE []⟩ 100000 Tryz.prog.globals.size e63 = true := by decide +kernel
theorem c64 : enOk ⟨fnOf Tryz.prog, memoE [e1, e4, e6, e11, e12, e13, e15, e17, e18, e19, e20, e23, e24, e25, e27, e28, e32, e33, e34, e35, e39, e40, e41, e42, e43, e44, e46, e47, e48, e49, e50, e51, e52, e53, e54, e55, e56, e57, e58, e59, e60, e61, e62, e63]⟩ 100000 Tryz.prog.globals.size e64 = true := by decide +kernel
theorem c110 : enOk ⟨fnOf Tryz.prog, memoE []⟩ 100000 Tryz.prog.globals.size e110 = true := by decide +kernel
theorem c146 : enOk ⟨fnOf Tryz.prog, memoE [e80, e81]⟩ 100000 Tryz.prog.globals.size e146 = true := by decide +kernel
theorem c154 : enOk ⟨fnOf Tryz.prog, memoE [e64, e138, e139, e140, e141, e142, e143, e144, e145, e146, e147, e148, e149, e150, e151, e152, e153]⟩ 100000 Tryz.prog.globals.size e154 = true := by decide +kernel
theorem c157 : enOk ⟨fnOf Tryz.prog, memoE [e64, e138, e139, e140, e141, e142, e143, e144, e145, e146, e147, e148, e149, e150, e151, e152, e153, e109, e110]⟩ 100000 Tryz.prog.globals.size e157 = true := by decide +kernel
theorem c187 : enOk ⟨fnOf Tryz.prog, memoE [e186, e96, e97, e98, e99, e102, e103]⟩ 100000 Tryz.prog.globals.size e187 = true := by decide +kernel
theorem c203 : enOk ⟨fnOf Tryz.prog, memoE []⟩ 100000 Tryz.prog.globals.size e203 = true := by decide +kernel
theorem c216 : enOk ⟨fnOf Tryz.prog, memoE [e202, e136, e101, e137, e165, e209, e168, e210, e169, e195, e214, e197, e215]⟩ 100000 Tryz.prog.globals.size e216 = true := by decide +kernel
theorem c242 : enOk ⟨fnOf Tryz.prog, memoE []⟩ 100000 Tryz.prog.globals.size e242 = true := by decide +kernel
theorem c305 : enOk ⟨fnOf Tryz.prog, memoE []⟩ 100000 Tryz.prog.globals.size e305 = true := by decide +kernel
theorem c326 : enOk ⟨fnOf Tryz.prog, memoE [e155, e64, e156, e115, e157, e158, e120, e159, e160, e161, e162, e325, e163]⟩ 100000 Tryz.prog.globals.size e326 = true := by decide +kernel
theorem c334 : enOk ⟨fnOf Tryz.prog, memoE [e333]⟩ 100000 Tryz.prog.globals.size e334 = true := by decide +kernel
end Go.Am
