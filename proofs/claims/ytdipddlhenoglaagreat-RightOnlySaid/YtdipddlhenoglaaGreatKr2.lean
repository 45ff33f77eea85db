/-
  Runs, by the kernel.
-/
import Derived.Test.YtdipddlhenoglaaGreatKra
namespace Go.Proofs.YtdipddlhenoglaaGreat.K
open Go.Abs Go.Proofs.YtdipddlhenoglaaGreat
set_option maxRecDepth 100000
noncomputable section
theorem r5:bB Go.Proofs.Tryz.prog (fD T4) 5000 209 a5 v5=true:=by kernel_rfl
theorem r9:bB Go.Proofs.Tryz.prog (fD T8) 5000 209 a9 v9=true:=by kernel_rfl
theorem r14:bB Go.Proofs.Tryz.prog (fD T13) 5000 209 rY v14=true:=by kernel_rfl
theorem r21:bB Go.Proofs.Tryz.prog (fD T20) 5000 209 a21 v21=true:=by kernel_rfl
theorem r28:bB Go.Proofs.Tryz.prog (fD T27) 5000 27 a28 v28=true:=by kernel_rfl
theorem r30:bB Go.Proofs.Tryz.prog (fD T29) 5000 30 a30 v30=true:=by kernel_rfl
theorem r41:bB Go.Proofs.Tryz.prog (fD T40) 5000 36 a41 v41=true:=by kernel_rfl
theorem r42:bB Go.Proofs.Tryz.prog (fD T41) 5000 9 a42 v42=true:=by kernel_rfl
theorem r63:bB Go.Proofs.Tryz.prog (fD T62) 5000 220 a63 v63=true:=by kernel_rfl
theorem r66:bB Go.Proofs.Tryz.prog (fD T65) 5000 220 a66 v66=true:=by kernel_rfl
theorem r68:bB Go.Proofs.Tryz.prog (fD T67) 5000 173 a68 v68=true:=by kernel_rfl
theorem r70:bB Go.Proofs.Tryz.prog (fD T69) 5000 220 a70 v70=true:=by kernel_rfl
end
end Go.Proofs.YtdipddlhenoglaaGreat.K
