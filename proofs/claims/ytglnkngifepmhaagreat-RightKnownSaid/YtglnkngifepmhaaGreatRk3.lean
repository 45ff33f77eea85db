/-
  A closed run in pieces: some of the runs, by the kernel.
-/
import Derived.Test.YtglnkngifepmhaaGreatRkd
set_option linter.unusedVariables false
set_option linter.unusedSimpArgs false

namespace Go.Proofs.YtglnkngifepmhaaGreat
open Go.Abs
set_option maxRecDepth 100000
noncomputable section

theorem r3 : dvalF Go.Proofs.Tryz.prog (tab t2) 5000 210 a3 v3 = true := by kernel_rfl
theorem r5 : dvalF Go.Proofs.Tryz.prog (tab t4) 5000 210 a5 v5 = true := by kernel_rfl
theorem r9 : dvalF Go.Proofs.Tryz.prog (tab t8) 5000 210 a9 v9 = true := by kernel_rfl
theorem r11 : dvalF Go.Proofs.Tryz.prog (tab t10) 5000 210 a11 v11 = true := by kernel_rfl
theorem r25 : dvalF Go.Proofs.Tryz.prog (tab t24) 5000 210 a25 v25 = true := by kernel_rfl
theorem r33 : dvalF Go.Proofs.Tryz.prog (tab t32) 5000 27 a33 v33 = true := by kernel_rfl
theorem r48 : dvalF Go.Proofs.Tryz.prog (tab t47) 5000 110 a48 v48 = true := by kernel_rfl
theorem r50 : dvalF Go.Proofs.Tryz.prog (tab t49) 5000 41 a50 v50 = true := by kernel_rfl
theorem r56 : dvalF Go.Proofs.Tryz.prog (tab t55) 5000 184 a56 v56 = true := by kernel_rfl
theorem r66 : dvalF Go.Proofs.Tryz.prog (tab t65) 5000 134 a66 v66 = true := by kernel_rfl
theorem r69 : dvalF Go.Proofs.Tryz.prog (tab t68) 5000 199 a69 v69 = true := by kernel_rfl
theorem r81 : dvalF Go.Proofs.Tryz.prog (tab t80) 5000 184 a81 v81 = true := by kernel_rfl
theorem r93 : dvalF Go.Proofs.Tryz.prog (tab t92) 5000 48 a93 v93 = true := by kernel_rfl
theorem r94 : dvalF Go.Proofs.Tryz.prog (tab t93) 5000 13 a94 v94 = true := by kernel_rfl
end
end Go.Proofs.YtglnkngifepmhaaGreat
