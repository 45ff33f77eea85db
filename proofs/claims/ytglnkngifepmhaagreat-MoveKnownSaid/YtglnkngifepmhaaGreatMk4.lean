/-
  A closed run in pieces: some of the runs, by the kernel.
-/
import Derived.Test.YtglnkngifepmhaaGreatMkd
set_option linter.unusedVariables false
set_option linter.unusedSimpArgs false

namespace Go.Proofs.YtglnkngifepmhaaGreat
open Go.Abs
set_option maxRecDepth 100000
noncomputable section

theorem r0 : dvalF Go.Proofs.Tryz.prog (tab []) 5000 210 a0 v0 = true := by kernel_rfl
theorem r1 : dvalF Go.Proofs.Tryz.prog (tab t0) 5000 210 a1 v1 = true := by kernel_rfl
theorem r2 : dvalF Go.Proofs.Tryz.prog (tab t1) 5000 210 a2 v2 = true := by kernel_rfl
theorem r12 : dvalF Go.Proofs.Tryz.prog (tab t11) 5000 210 a12 v12 = true := by kernel_rfl
theorem r15 : dvalF Go.Proofs.Tryz.prog (tab t14) 5000 210 a15 v15 = true := by kernel_rfl
theorem r25 : dvalF Go.Proofs.Tryz.prog (tab t24) 5000 16 a25 v25 = true := by kernel_rfl
theorem r26 : dvalF Go.Proofs.Tryz.prog (tab t25) 5000 16 a26 v26 = true := by kernel_rfl
theorem r31 : dvalF Go.Proofs.Tryz.prog (tab t30) 5000 179 a31 v31 = true := by kernel_rfl
theorem r42 : dvalF Go.Proofs.Tryz.prog (tab t41) 5000 15 a42 v42 = true := by kernel_rfl
theorem r43 : dvalF Go.Proofs.Tryz.prog (tab t42) 5000 15 a43 v43 = true := by kernel_rfl
theorem r52 : dvalF Go.Proofs.Tryz.prog (tab t51) 5000 81 a52 v52 = true := by kernel_rfl
end
end Go.Proofs.YtglnkngifepmhaaGreat
