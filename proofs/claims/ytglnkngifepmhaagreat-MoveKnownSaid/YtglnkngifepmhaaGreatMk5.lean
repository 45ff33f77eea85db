/-
  A closed run in pieces: some of the runs, by the kernel.
-/
import Derived.Test.YtglnkngifepmhaaGreatMkd
set_option linter.unusedVariables false
set_option linter.unusedSimpArgs false

namespace Go.Proofs.YtglnkngifepmhaaGreat
open Go.Abs
set_option maxRecDepth 100000
noncomputable section

theorem r3 : dvalF Go.Proofs.Tryz.prog (tab t2) 5000 210 a3 v3 = true := by kernel_rfl
theorem r5 : dvalF Go.Proofs.Tryz.prog (tab t4) 5000 210 a5 v5 = true := by kernel_rfl
theorem r16 : dvalF Go.Proofs.Tryz.prog (tab t15) 5000 210 a16 v16 = true := by kernel_rfl
theorem r18 : dvalF Go.Proofs.Tryz.prog (tab t17) 5000 210 a18 v18 = true := by kernel_rfl
theorem r22 : dvalF Go.Proofs.Tryz.prog (tab t21) 5000 204 a22 v22 = true := by kernel_rfl
theorem r24 : dvalF Go.Proofs.Tryz.prog (tab t23) 5000 27 a24 v24 = true := by kernel_rfl
theorem r30 : dvalF Go.Proofs.Tryz.prog (tab t29) 5000 23 a30 v30 = true := by kernel_rfl
theorem r46 : dvalF Go.Proofs.Tryz.prog (tab t45) 5000 19 a46 v46 = true := by kernel_rfl
theorem r48 : dvalF Go.Proofs.Tryz.prog (tab t47) 5000 22 a48 v48 = true := by kernel_rfl
theorem r50 : dvalF Go.Proofs.Tryz.prog (tab t49) 5000 25 a50 v50 = true := by kernel_rfl
theorem r51 : dvalF Go.Proofs.Tryz.prog (tab t50) 5000 80 a51 v51 = true := by kernel_rfl
theorem r54 : dvalF Go.Proofs.Tryz.prog (tab t53) 5000 22 a54 v54 = true := by kernel_rfl
end
end Go.Proofs.YtglnkngifepmhaaGreat
