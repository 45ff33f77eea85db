/-
  A closed run in pieces: some of the runs, by the kernel.
-/
import Derived.Test.YtglnkngifepmhaaGreatRkd
set_option linter.unusedVariables false
set_option linter.unusedSimpArgs false

namespace Go.Proofs.YtglnkngifepmhaaGreat
open Go.Abs
set_option maxRecDepth 100000
noncomputable section

theorem r0 : dvalF Go.Proofs.Tryz.prog (tab []) 5000 210 a0 v0 = true := by kernel_rfl
theorem r6 : dvalF Go.Proofs.Tryz.prog (tab t5) 5000 210 a6 v6 = true := by kernel_rfl
theorem r10 : dvalF Go.Proofs.Tryz.prog (tab t9) 5000 210 a10 v10 = true := by kernel_rfl
theorem r16 : dvalF Go.Proofs.Tryz.prog (tab t15) 5000 210 a16 v16 = true := by kernel_rfl
theorem r34 : dvalF Go.Proofs.Tryz.prog (tab t33) 5000 27 a34 v34 = true := by kernel_rfl
theorem r55 : dvalF Go.Proofs.Tryz.prog (tab t54) 5000 134 a55 v55 = true := by kernel_rfl
theorem r63 : dvalF Go.Proofs.Tryz.prog (tab t62) 5000 184 a63 v63 = true := by kernel_rfl
theorem r64 : dvalF Go.Proofs.Tryz.prog (tab t63) 5000 184 a64 v64 = true := by kernel_rfl
theorem r71 : dvalF Go.Proofs.Tryz.prog (tab t70) 5000 134 a71 v71 = true := by kernel_rfl
theorem r80 : dvalF Go.Proofs.Tryz.prog (tab t79) 5000 134 a80 v80 = true := by kernel_rfl
theorem r84 : dvalF Go.Proofs.Tryz.prog (tab t83) 5000 48 a84 v84 = true := by kernel_rfl
theorem r85 : dvalF Go.Proofs.Tryz.prog (tab t84) 5000 33 a85 v85 = true := by kernel_rfl
theorem r96 : dvalF Go.Proofs.Tryz.prog (tab t95) 5000 8 a96 v96 = true := by kernel_rfl
theorem r97 : dvalF Go.Proofs.Tryz.prog (tab t96) 5000 50 a97 v97 = true := by kernel_rfl
end
end Go.Proofs.YtglnkngifepmhaaGreat
