/-
  Runs, by the kernel.
-/
import Derived.Test.YthakciolcdlphaaGreatKra
namespace Go.Proofs.YthakciolcdlphaaGreat.K
open Go.Abs Go.Proofs.YthakciolcdlphaaGreat
set_option maxRecDepth 100000
noncomputable section
theorem r4:bM Go.Proofs.Tryz.prog (kH T3) 5000 179 a4 v4=true:=by kernel_rfl
theorem r9:bM Go.Proofs.Tryz.prog (kH T8) 5000 179 a9 v9=true:=by kernel_rfl
theorem r14:bM Go.Proofs.Tryz.prog (kH T13) 5000 179 a14 v14=true:=by kernel_rfl
theorem r19:bM Go.Proofs.Tryz.prog (kH T18) 5000 179 a19 v19=true:=by kernel_rfl
theorem r20:bM Go.Proofs.Tryz.prog (kH T19) 5000 179 a20 v20=true:=by kernel_rfl
theorem r24:bM Go.Proofs.Tryz.prog (kH T23) 5000 39 a24 v24=true:=by kernel_rfl
theorem r26:bM Go.Proofs.Tryz.prog (kH T25) 5000 13 a26 v26=true:=by kernel_rfl
theorem r27:bM Go.Proofs.Tryz.prog (kH T26) 5000 14 a27 v27=true:=by kernel_rfl
theorem r31:bM Go.Proofs.Tryz.prog (kH T30) 5000 25 a31 v31=true:=by kernel_rfl
theorem r33:bM Go.Proofs.Tryz.prog (kH T32) 5000 25 a33 v33=true:=by kernel_rfl
theorem r44:bM Go.Proofs.Tryz.prog (kH T43) 5000 19 a44 v44=true:=by kernel_rfl
end
end Go.Proofs.YthakciolcdlphaaGreat.K
