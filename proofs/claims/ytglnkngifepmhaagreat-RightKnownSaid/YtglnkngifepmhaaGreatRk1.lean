/-
  A closed run in pieces: some of the runs, by the kernel.
-/
import Derived.Test.YtglnkngifepmhaaGreatRkd
set_option linter.unusedVariables false
set_option linter.unusedSimpArgs false

namespace Go.Proofs.YtglnkngifepmhaaGreat
open Go.Abs
set_option maxRecDepth 100000
noncomputable section

theorem r14 : dvalF Go.Proofs.Tryz.prog (tab t13) 5000 210 a14 v14 = true := by kernel_rfl
theorem r21 : dvalF Go.Proofs.Tryz.prog (tab t20) 5000 210 a21 v21 = true := by kernel_rfl
theorem r24 : dvalF Go.Proofs.Tryz.prog (tab t23) 5000 210 a24 v24 = true := by kernel_rfl
theorem r26 : dvalF Go.Proofs.Tryz.prog (tab t25) 5000 210 a26 v26 = true := by kernel_rfl
theorem r27 : dvalF Go.Proofs.Tryz.prog (tab t26) 5000 210 a27 v27 = true := by kernel_rfl
theorem r30 : dvalF Go.Proofs.Tryz.prog (tab t29) 5000 204 a30 v30 = true := by kernel_rfl
theorem r37 : dvalF Go.Proofs.Tryz.prog (tab t36) 5000 5 a37 v37 = true := by kernel_rfl
theorem r43 : dvalF Go.Proofs.Tryz.prog (tab t42) 5000 41 a43 v43 = true := by kernel_rfl
theorem r45 : dvalF Go.Proofs.Tryz.prog (tab t44) 5000 41 a45 v45 = true := by kernel_rfl
theorem r52 : dvalF Go.Proofs.Tryz.prog (tab t51) 5000 134 a52 v52 = true := by kernel_rfl
theorem r53 : dvalF Go.Proofs.Tryz.prog (tab t52) 5000 184 a53 v53 = true := by kernel_rfl
theorem r58 : dvalF Go.Proofs.Tryz.prog (tab t57) 5000 134 a58 v58 = true := by kernel_rfl
theorem r79 : dvalF Go.Proofs.Tryz.prog (tab t78) 5000 199 a79 v79 = true := by kernel_rfl
theorem r87 : dvalF Go.Proofs.Tryz.prog (tab t86) 5000 48 a87 v87 = true := by kernel_rfl
end
end Go.Proofs.YtglnkngifepmhaaGreat
