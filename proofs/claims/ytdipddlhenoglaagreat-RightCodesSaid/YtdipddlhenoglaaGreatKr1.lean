/-
  Runs, by the kernel.
-/
import Derived.Test.YtdipddlhenoglaaGreatKra
namespace Go.Proofs.YtdipddlhenoglaaGreat.K
open Go.Abs Go.Proofs.YtdipddlhenoglaaGreat
set_option maxRecDepth 100000
noncomputable section
theorem r2:bC Go.Proofs.Tryz.prog (eR T1) 5000 209 a2 v2=true:=by kernel_rfl
theorem r15:bC Go.Proofs.Tryz.prog (eR T14) 5000 209 vY v15=true:=by kernel_rfl
theorem r22:bC Go.Proofs.Tryz.prog (eR T21) 5000 209 a22 v22=true:=by kernel_rfl
theorem r24:bC Go.Proofs.Tryz.prog (eR T23) 5000 209 a24 v24=true:=by kernel_rfl
theorem r27:bC Go.Proofs.Tryz.prog (eR T26) 5000 27 a27 v27=true:=by kernel_rfl
theorem r38:bC Go.Proofs.Tryz.prog (eR T37) 5000 35 a38 v38=true:=by kernel_rfl
theorem r43:bC Go.Proofs.Tryz.prog (eR T42) 5000 31 a43 v43=true:=by kernel_rfl
theorem r47:bC Go.Proofs.Tryz.prog (eR T46) 5000 219 a47 v47=true:=by kernel_rfl
theorem r48:bC Go.Proofs.Tryz.prog (eR T47) 5000 220 a48 v48=true:=by kernel_rfl
theorem r51:bC Go.Proofs.Tryz.prog (eR T50) 5000 220 a51 v51=true:=by kernel_rfl
theorem r58:bC Go.Proofs.Tryz.prog (eR T57) 5000 220 a58 v58=true:=by kernel_rfl
theorem r71:bC Go.Proofs.Tryz.prog (eR T70) 5000 220 a71 v71=true:=by kernel_rfl
end
end Go.Proofs.YtdipddlhenoglaaGreat.K
