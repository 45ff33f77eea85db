/-
  A closed run in pieces: some of the runs, by the kernel.
-/
import Derived.Test.YtglnkngifepmhaaGreatRkd
set_option linter.unusedVariables false
set_option linter.unusedSimpArgs false

namespace Go.Proofs.YtglnkngifepmhaaGreat
open Go.Abs
set_option maxRecDepth 100000
noncomputable section

theorem r13 : dvalF Go.Proofs.Tryz.prog (tab t12) 5000 210 a13 v13 = true := by kernel_rfl
theorem r15 : dvalF Go.Proofs.Tryz.prog (tab t14) 5000 210 a15 v15 = true := by kernel_rfl
theorem r22 : dvalF Go.Proofs.Tryz.prog (tab t21) 5000 210 a22 v22 = true := by kernel_rfl
theorem r29 : dvalF Go.Proofs.Tryz.prog (tab t28) 5000 210 a29 v29 = true := by kernel_rfl
theorem r38 : dvalF Go.Proofs.Tryz.prog (tab t37) 5000 5 a38 v38 = true := by kernel_rfl
theorem r39 : dvalF Go.Proofs.Tryz.prog (tab t38) 5000 7 a39 v39 = true := by kernel_rfl
theorem r46 : dvalF Go.Proofs.Tryz.prog (tab t45) 5000 179 a46 v46 = true := by kernel_rfl
theorem r51 : dvalF Go.Proofs.Tryz.prog (tab t50) 5000 199 a51 v51 = true := by kernel_rfl
theorem r61 : dvalF Go.Proofs.Tryz.prog (tab t60) 5000 134 a61 v61 = true := by kernel_rfl
theorem r65 : dvalF Go.Proofs.Tryz.prog (tab t64) 5000 199 a65 v65 = true := by kernel_rfl
theorem r74 : dvalF Go.Proofs.Tryz.prog (tab t73) 5000 134 a74 v74 = true := by kernel_rfl
theorem r76 : dvalF Go.Proofs.Tryz.prog (tab t75) 5000 184 a76 v76 = true := by kernel_rfl
theorem r83 : dvalF Go.Proofs.Tryz.prog (tab t82) 5000 6 a83 v83 = true := by kernel_rfl
theorem r95 : dvalF Go.Proofs.Tryz.prog (tab t94) 5000 33 a95 v95 = true := by kernel_rfl
end
end Go.Proofs.YtglnkngifepmhaaGreat
