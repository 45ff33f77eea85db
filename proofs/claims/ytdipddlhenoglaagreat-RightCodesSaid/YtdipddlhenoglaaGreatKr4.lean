/-
  Runs, by the kernel.
-/
import Derived.Test.YtdipddlhenoglaaGreatKra
namespace Go.Proofs.YtdipddlhenoglaaGreat.K
open Go.Abs Go.Proofs.YtdipddlhenoglaaGreat
set_option maxRecDepth 100000
noncomputable section
theorem r3:bC Go.Proofs.Tryz.prog (eR T2) 5000 209 a3 v3=true:=by kernel_rfl
theorem r4:bC Go.Proofs.Tryz.prog (eR T3) 5000 209 a4 v4=true:=by kernel_rfl
theorem r7:bC Go.Proofs.Tryz.prog (eR T6) 5000 209 a7 v7=true:=by kernel_rfl
theorem r12:bC Go.Proofs.Tryz.prog (eR T11) 5000 209 mK v12=true:=by kernel_rfl
theorem r17:bC Go.Proofs.Tryz.prog (eR T16) 5000 209 JU v17=true:=by kernel_rfl
theorem r26:bC Go.Proofs.Tryz.prog (eR T25) 5000 203 a26 v26=true:=by kernel_rfl
theorem r34:bC Go.Proofs.Tryz.prog (eR T33) 5000 34 a34 v34=true:=by kernel_rfl
theorem r50:bC Go.Proofs.Tryz.prog (eR T49) 5000 219 a50 v50=true:=by kernel_rfl
theorem r55:bC Go.Proofs.Tryz.prog (eR T54) 5000 173 a55 v55=true:=by kernel_rfl
theorem r62:bC Go.Proofs.Tryz.prog (eR T61) 5000 220 a62 v62=true:=by kernel_rfl
theorem r65:bC Go.Proofs.Tryz.prog (eR T64) 5000 219 a65 v65=true:=by kernel_rfl
theorem r72:bC Go.Proofs.Tryz.prog (eR T71) 5000 173 a72 v72=true:=by kernel_rfl
theorem r77:bC Go.Proofs.Tryz.prog (eR T76) 5000 173 a77 v77=true:=by kernel_rfl
end
end Go.Proofs.YtdipddlhenoglaaGreat.K
