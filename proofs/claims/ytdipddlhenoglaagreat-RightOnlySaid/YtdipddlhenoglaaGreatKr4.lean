/-
  Runs, by the kernel.
-/
import Derived.Test.YtdipddlhenoglaaGreatKra
namespace Go.Proofs.YtdipddlhenoglaaGreat.K
open Go.Abs Go.Proofs.YtdipddlhenoglaaGreat
set_option maxRecDepth 100000
noncomputable section
theorem r3:bB Go.Proofs.Tryz.prog (fD T2) 5000 209 a3 v3=true:=by kernel_rfl
theorem r4:bB Go.Proofs.Tryz.prog (fD T3) 5000 209 a4 v4=true:=by kernel_rfl
theorem r7:bB Go.Proofs.Tryz.prog (fD T6) 5000 209 a7 v7=true:=by kernel_rfl
theorem r12:bB Go.Proofs.Tryz.prog (fD T11) 5000 209 lT v12=true:=by kernel_rfl
theorem r17:bB Go.Proofs.Tryz.prog (fD T16) 5000 209 JD v17=true:=by kernel_rfl
theorem r26:bB Go.Proofs.Tryz.prog (fD T25) 5000 203 a26 v26=true:=by kernel_rfl
theorem r34:bB Go.Proofs.Tryz.prog (fD T33) 5000 34 a34 v34=true:=by kernel_rfl
theorem r50:bB Go.Proofs.Tryz.prog (fD T49) 5000 219 a50 v50=true:=by kernel_rfl
theorem r55:bB Go.Proofs.Tryz.prog (fD T54) 5000 173 a55 v55=true:=by kernel_rfl
theorem r62:bB Go.Proofs.Tryz.prog (fD T61) 5000 220 a62 v62=true:=by kernel_rfl
theorem r65:bB Go.Proofs.Tryz.prog (fD T64) 5000 219 a65 v65=true:=by kernel_rfl
theorem r72:bB Go.Proofs.Tryz.prog (fD T71) 5000 173 a72 v72=true:=by kernel_rfl
theorem r77:bB Go.Proofs.Tryz.prog (fD T76) 5000 173 a77 v77=true:=by kernel_rfl
end
end Go.Proofs.YtdipddlhenoglaaGreat.K
