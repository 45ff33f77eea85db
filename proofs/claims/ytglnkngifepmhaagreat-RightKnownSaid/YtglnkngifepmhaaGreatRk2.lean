/-
  A closed run in pieces: some of the runs, by the kernel.
-/
import Derived.Test.YtglnkngifepmhaaGreatRkd
set_option linter.unusedVariables false
set_option linter.unusedSimpArgs false

namespace Go.Proofs.YtglnkngifepmhaaGreat
open Go.Abs
set_option maxRecDepth 100000
noncomputable section

theorem r1 : dvalF Go.Proofs.Tryz.prog (tab t0) 5000 210 a1 v1 = true := by kernel_rfl
theorem r7 : dvalF Go.Proofs.Tryz.prog (tab t6) 5000 210 a7 v7 = true := by kernel_rfl
theorem r8 : dvalF Go.Proofs.Tryz.prog (tab t7) 5000 210 a8 v8 = true := by kernel_rfl
theorem r20 : dvalF Go.Proofs.Tryz.prog (tab t19) 5000 210 a20 v20 = true := by kernel_rfl
theorem r28 : dvalF Go.Proofs.Tryz.prog (tab t27) 5000 210 a28 v28 = true := by kernel_rfl
theorem r32 : dvalF Go.Proofs.Tryz.prog (tab t31) 5000 204 a32 v32 = true := by kernel_rfl
theorem r40 : dvalF Go.Proofs.Tryz.prog (tab t39) 5000 9 a40 v40 = true := by kernel_rfl
theorem r49 : dvalF Go.Proofs.Tryz.prog (tab t48) 5000 179 a49 v49 = true := by kernel_rfl
theorem r59 : dvalF Go.Proofs.Tryz.prog (tab t58) 5000 184 a59 v59 = true := by kernel_rfl
theorem r60 : dvalF Go.Proofs.Tryz.prog (tab t59) 5000 199 a60 v60 = true := by kernel_rfl
theorem r67 : dvalF Go.Proofs.Tryz.prog (tab t66) 5000 134 a67 v67 = true := by kernel_rfl
theorem r70 : dvalF Go.Proofs.Tryz.prog (tab t69) 5000 134 a70 v70 = true := by kernel_rfl
theorem r88 : dvalF Go.Proofs.Tryz.prog (tab t87) 5000 33 a88 v88 = true := by kernel_rfl
theorem r98 : dvalF Go.Proofs.Tryz.prog (tab t97) 5000 14 a98 v98 = true := by kernel_rfl
end
end Go.Proofs.YtglnkngifepmhaaGreat
