/-
  A closed run in pieces: some of the runs, by the kernel.
-/
import Derived.Test.YtglnkngifepmhaaGreatMkd
set_option linter.unusedVariables false
set_option linter.unusedSimpArgs false

namespace Go.Proofs.YtglnkngifepmhaaGreat
open Go.Abs
set_option maxRecDepth 100000
noncomputable section

theorem r7 : dvalF Go.Proofs.Tryz.prog (tab t6) 5000 210 a7 v7 = true := by kernel_rfl
theorem r11 : dvalF Go.Proofs.Tryz.prog (tab t10) 5000 210 a11 v11 = true := by kernel_rfl
theorem r19 : dvalF Go.Proofs.Tryz.prog (tab t18) 5000 210 a19 v19 = true := by kernel_rfl
theorem r21 : dvalF Go.Proofs.Tryz.prog (tab t20) 5000 204 a21 v21 = true := by kernel_rfl
theorem r32 : dvalF Go.Proofs.Tryz.prog (tab t31) 5000 41 a32 v32 = true := by kernel_rfl
theorem r33 : dvalF Go.Proofs.Tryz.prog (tab t32) 5000 15 a33 v33 = true := by kernel_rfl
theorem r38 : dvalF Go.Proofs.Tryz.prog (tab t37) 5000 41 a38 v38 = true := by kernel_rfl
theorem r41 : dvalF Go.Proofs.Tryz.prog (tab t40) 5000 19 a41 v41 = true := by kernel_rfl
theorem r44 : dvalF Go.Proofs.Tryz.prog (tab t43) 5000 459 a44 v44 = true := by kernel_rfl
theorem r55 : dvalF Go.Proofs.Tryz.prog (tab t54) 5000 25 a55 v55 = true := by kernel_rfl
end
end Go.Proofs.YtglnkngifepmhaaGreat
