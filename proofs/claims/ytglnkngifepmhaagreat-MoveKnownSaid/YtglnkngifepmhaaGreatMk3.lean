/-
  A closed run in pieces: some of the runs, by the kernel.
-/
import Derived.Test.YtglnkngifepmhaaGreatMkd
set_option linter.unusedVariables false
set_option linter.unusedSimpArgs false

namespace Go.Proofs.YtglnkngifepmhaaGreat
open Go.Abs
set_option maxRecDepth 100000
noncomputable section

theorem r8 : dvalF Go.Proofs.Tryz.prog (tab t7) 5000 210 a8 v8 = true := by kernel_rfl
theorem r9 : dvalF Go.Proofs.Tryz.prog (tab t8) 5000 210 a9 v9 = true := by kernel_rfl
theorem r17 : dvalF Go.Proofs.Tryz.prog (tab t16) 5000 210 a17 v17 = true := by kernel_rfl
theorem r20 : dvalF Go.Proofs.Tryz.prog (tab t19) 5000 210 a20 v20 = true := by kernel_rfl
theorem r27 : dvalF Go.Proofs.Tryz.prog (tab t26) 5000 17 a27 v27 = true := by kernel_rfl
theorem r28 : dvalF Go.Proofs.Tryz.prog (tab t27) 5000 18 a28 v28 = true := by kernel_rfl
theorem r29 : dvalF Go.Proofs.Tryz.prog (tab t28) 5000 20 a29 v29 = true := by kernel_rfl
theorem r35 : dvalF Go.Proofs.Tryz.prog (tab t34) 5000 41 a35 v35 = true := by kernel_rfl
theorem r39 : dvalF Go.Proofs.Tryz.prog (tab t38) 5000 459 a39 v39 = true := by kernel_rfl
theorem r47 : dvalF Go.Proofs.Tryz.prog (tab t46) 5000 41 a47 v47 = true := by kernel_rfl
theorem r49 : dvalF Go.Proofs.Tryz.prog (tab t48) 5000 22 a49 v49 = true := by kernel_rfl
theorem r56 : dvalF Go.Proofs.Tryz.prog (tab t55) 5000 21 a56 v56 = true := by kernel_rfl
end
end Go.Proofs.YtglnkngifepmhaaGreat
