/-
  Runs, by the kernel.
-/
import Derived.Test.YtdipddlhenoglaaGreatKra
namespace Go.Proofs.YtdipddlhenoglaaGreat.K
open Go.Abs Go.Proofs.YtdipddlhenoglaaGreat
set_option maxRecDepth 100000
noncomputable section
theorem r5:bC Go.Proofs.Tryz.prog (eR T4) 5000 209 a5 v5=true:=by kernel_rfl
theorem r9:bC Go.Proofs.Tryz.prog (eR T8) 5000 209 a9 v9=true:=by kernel_rfl
theorem r14:bC Go.Proofs.Tryz.prog (eR T13) 5000 209 sI v14=true:=by kernel_rfl
theorem r21:bC Go.Proofs.Tryz.prog (eR T20) 5000 209 a21 v21=true:=by kernel_rfl
theorem r28:bC Go.Proofs.Tryz.prog (eR T27) 5000 27 a28 v28=true:=by kernel_rfl
theorem r30:bC Go.Proofs.Tryz.prog (eR T29) 5000 30 a30 v30=true:=by kernel_rfl
theorem r41:bC Go.Proofs.Tryz.prog (eR T40) 5000 36 a41 v41=true:=by kernel_rfl
theorem r42:bC Go.Proofs.Tryz.prog (eR T41) 5000 9 a42 v42=true:=by kernel_rfl
theorem r63:bC Go.Proofs.Tryz.prog (eR T62) 5000 220 a63 v63=true:=by kernel_rfl
theorem r66:bC Go.Proofs.Tryz.prog (eR T65) 5000 220 a66 v66=true:=by kernel_rfl
theorem r68:bC Go.Proofs.Tryz.prog (eR T67) 5000 173 a68 v68=true:=by kernel_rfl
theorem r70:bC Go.Proofs.Tryz.prog (eR T69) 5000 220 a70 v70=true:=by kernel_rfl
end
end Go.Proofs.YtdipddlhenoglaaGreat.K
