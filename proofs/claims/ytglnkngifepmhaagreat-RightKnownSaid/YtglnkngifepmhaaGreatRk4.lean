/-
  A closed run in pieces: some of the runs, by the kernel.
-/
import Derived.Test.YtglnkngifepmhaaGreatRkd
set_option linter.unusedVariables false
set_option linter.unusedSimpArgs false

namespace Go.Proofs.YtglnkngifepmhaaGreat
open Go.Abs
set_option maxRecDepth 100000
noncomputable section

theorem r2 : dvalF Go.Proofs.Tryz.prog (tab t1) 5000 210 a2 v2 = true := by kernel_rfl
theorem r18 : dvalF Go.Proofs.Tryz.prog (tab t17) 5000 210 a18 v18 = true := by kernel_rfl
theorem r19 : dvalF Go.Proofs.Tryz.prog (tab t18) 5000 210 a19 v19 = true := by kernel_rfl
theorem r23 : dvalF Go.Proofs.Tryz.prog (tab t22) 5000 210 a23 v23 = true := by kernel_rfl
theorem r35 : dvalF Go.Proofs.Tryz.prog (tab t34) 5000 27 a35 v35 = true := by kernel_rfl
theorem r36 : dvalF Go.Proofs.Tryz.prog (tab t35) 5000 5 a36 v36 = true := by kernel_rfl
theorem r54 : dvalF Go.Proofs.Tryz.prog (tab t53) 5000 199 a54 v54 = true := by kernel_rfl
theorem r57 : dvalF Go.Proofs.Tryz.prog (tab t56) 5000 199 a57 v57 = true := by kernel_rfl
theorem r62 : dvalF Go.Proofs.Tryz.prog (tab t61) 5000 134 a62 v62 = true := by kernel_rfl
theorem r72 : dvalF Go.Proofs.Tryz.prog (tab t71) 5000 184 a72 v72 = true := by kernel_rfl
theorem r77 : dvalF Go.Proofs.Tryz.prog (tab t76) 5000 199 a77 v77 = true := by kernel_rfl
theorem r86 : dvalF Go.Proofs.Tryz.prog (tab t85) 5000 8 a86 v86 = true := by kernel_rfl
theorem r91 : dvalF Go.Proofs.Tryz.prog (tab t90) 5000 13 a91 v91 = true := by kernel_rfl
theorem r92 : dvalF Go.Proofs.Tryz.prog (tab t91) 5000 6 a92 v92 = true := by kernel_rfl
end
end Go.Proofs.YtglnkngifepmhaaGreat
