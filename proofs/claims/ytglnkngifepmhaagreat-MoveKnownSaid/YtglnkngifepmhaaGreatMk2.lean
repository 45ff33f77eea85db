/-
  A closed run in pieces: some of the runs, by the kernel.
-/
import Derived.Test.YtglnkngifepmhaaGreatMkd
set_option linter.unusedVariables false
set_option linter.unusedSimpArgs false

namespace Go.Proofs.YtglnkngifepmhaaGreat
open Go.Abs
set_option maxRecDepth 100000
noncomputable section

theorem r4 : dvalF Go.Proofs.Tryz.prog (tab t3) 5000 210 a4 v4 = true := by kernel_rfl
theorem r6 : dvalF Go.Proofs.Tryz.prog (tab t5) 5000 210 a6 v6 = true := by kernel_rfl
theorem r10 : dvalF Go.Proofs.Tryz.prog (tab t9) 5000 210 a10 v10 = true := by kernel_rfl
theorem r13 : dvalF Go.Proofs.Tryz.prog (tab t12) 5000 210 a13 v13 = true := by kernel_rfl
theorem r14 : dvalF Go.Proofs.Tryz.prog (tab t13) 5000 210 a14 v14 = true := by kernel_rfl
theorem r23 : dvalF Go.Proofs.Tryz.prog (tab t22) 5000 27 a23 v23 = true := by kernel_rfl
theorem r34 : dvalF Go.Proofs.Tryz.prog (tab t33) 5000 179 a34 v34 = true := by kernel_rfl
theorem r36 : dvalF Go.Proofs.Tryz.prog (tab t35) 5000 15 a36 v36 = true := by kernel_rfl
theorem r37 : dvalF Go.Proofs.Tryz.prog (tab t36) 5000 19 a37 v37 = true := by kernel_rfl
theorem r40 : dvalF Go.Proofs.Tryz.prog (tab t39) 5000 22 a40 v40 = true := by kernel_rfl
theorem r45 : dvalF Go.Proofs.Tryz.prog (tab t44) 5000 21 a45 v45 = true := by kernel_rfl
theorem r53 : dvalF Go.Proofs.Tryz.prog (tab t52) 5000 41 a53 v53 = true := by kernel_rfl
end
end Go.Proofs.YtglnkngifepmhaaGreat
