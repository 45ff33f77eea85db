/-
  A closed run in pieces: some of the runs, by the kernel.
-/
import Derived.Test.YtglnkngifepmhaaGreatRkd
set_option linter.unusedVariables false
set_option linter.unusedSimpArgs false

namespace Go.Proofs.YtglnkngifepmhaaGreat
open Go.Abs
set_option maxRecDepth 100000
noncomputable section

theorem r4 : dvalF Go.Proofs.Tryz.prog (tab t3) 5000 210 a4 v4 = true := by kernel_rfl
theorem r12 : dvalF Go.Proofs.Tryz.prog (tab t11) 5000 210 a12 v12 = true := by kernel_rfl
theorem r17 : dvalF Go.Proofs.Tryz.prog (tab t16) 5000 210 a17 v17 = true := by kernel_rfl
theorem r31 : dvalF Go.Proofs.Tryz.prog (tab t30) 5000 204 a31 v31 = true := by kernel_rfl
theorem r41 : dvalF Go.Proofs.Tryz.prog (tab t40) 5000 9 a41 v41 = true := by kernel_rfl
theorem r42 : dvalF Go.Proofs.Tryz.prog (tab t41) 5000 179 a42 v42 = true := by kernel_rfl
theorem r44 : dvalF Go.Proofs.Tryz.prog (tab t43) 5000 179 a44 v44 = true := by kernel_rfl
theorem r47 : dvalF Go.Proofs.Tryz.prog (tab t46) 5000 41 a47 v47 = true := by kernel_rfl
theorem r68 : dvalF Go.Proofs.Tryz.prog (tab t67) 5000 184 a68 v68 = true := by kernel_rfl
theorem r73 : dvalF Go.Proofs.Tryz.prog (tab t72) 5000 199 a73 v73 = true := by kernel_rfl
theorem r75 : dvalF Go.Proofs.Tryz.prog (tab t74) 5000 134 a75 v75 = true := by kernel_rfl
theorem r78 : dvalF Go.Proofs.Tryz.prog (tab t77) 5000 134 a78 v78 = true := by kernel_rfl
theorem r82 : dvalF Go.Proofs.Tryz.prog (tab t81) 5000 6 a82 v82 = true := by kernel_rfl
theorem r89 : dvalF Go.Proofs.Tryz.prog (tab t88) 5000 8 a89 v89 = true := by kernel_rfl
theorem r90 : dvalF Go.Proofs.Tryz.prog (tab t89) 5000 6 a90 v90 = true := by kernel_rfl
end
end Go.Proofs.YtglnkngifepmhaaGreat
