/-
  Runs, by the kernel.
-/
import Derived.Test.YtdipddlhenoglaaGreatKra
namespace Go.Proofs.YtdipddlhenoglaaGreat.K
open Go.Abs Go.Proofs.YtdipddlhenoglaaGreat
set_option maxRecDepth 100000
noncomputable section
theorem r2:bB Go.Proofs.Tryz.prog (fD T1) 5000 209 a2 v2=true:=by kernel_rfl
theorem r15:bB Go.Proofs.Tryz.prog (fD T14) 5000 209 wD v15=true:=by kernel_rfl
theorem r22:bB Go.Proofs.Tryz.prog (fD T21) 5000 209 a22 v22=true:=by kernel_rfl
theorem r24:bB Go.Proofs.Tryz.prog (fD T23) 5000 209 a24 v24=true:=by kernel_rfl
theorem r27:bB Go.Proofs.Tryz.prog (fD T26) 5000 27 a27 v27=true:=by kernel_rfl
theorem r38:bB Go.Proofs.Tryz.prog (fD T37) 5000 35 a38 v38=true:=by kernel_rfl
theorem r43:bB Go.Proofs.Tryz.prog (fD T42) 5000 31 a43 v43=true:=by kernel_rfl
theorem r47:bB Go.Proofs.Tryz.prog (fD T46) 5000 219 a47 v47=true:=by kernel_rfl
theorem r48:bB Go.Proofs.Tryz.prog (fD T47) 5000 220 a48 v48=true:=by kernel_rfl
theorem r51:bB Go.Proofs.Tryz.prog (fD T50) 5000 220 a51 v51=true:=by kernel_rfl
theorem r58:bB Go.Proofs.Tryz.prog (fD T57) 5000 220 a58 v58=true:=by kernel_rfl
theorem r71:bB Go.Proofs.Tryz.prog (fD T70) 5000 220 a71 v71=true:=by kernel_rfl
end
end Go.Proofs.YtdipddlhenoglaaGreat.K
