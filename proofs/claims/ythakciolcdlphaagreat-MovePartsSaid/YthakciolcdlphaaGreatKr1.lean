/-
  Runs, by the kernel.
-/
import Derived.Test.YthakciolcdlphaaGreatKra
namespace Go.Proofs.YthakciolcdlphaaGreat.K
open Go.Abs Go.Proofs.YthakciolcdlphaaGreat
set_option maxRecDepth 100000
noncomputable section
theorem r5:bM Go.Proofs.Tryz.prog (kH T4) 5000 179 a5 v5=true:=by kernel_rfl
theorem r6:bM Go.Proofs.Tryz.prog (kH T5) 5000 179 a6 v6=true:=by kernel_rfl
theorem r13:bM Go.Proofs.Tryz.prog (kH T12) 5000 179 a13 v13=true:=by kernel_rfl
theorem r15:bM Go.Proofs.Tryz.prog (kH T14) 5000 179 a15 v15=true:=by kernel_rfl
theorem r21:bM Go.Proofs.Tryz.prog (kH T20) 5000 124 a21 v21=true:=by kernel_rfl
theorem r25:bM Go.Proofs.Tryz.prog (kH T24) 5000 13 a25 v25=true:=by kernel_rfl
theorem r29:bM Go.Proofs.Tryz.prog (kH T28) 5000 17 a29 v29=true:=by kernel_rfl
theorem r40:bM Go.Proofs.Tryz.prog (kH T39) 5000 21 a40 v40=true:=by kernel_rfl
theorem r41:bM Go.Proofs.Tryz.prog (kH T40) 5000 25 a41 v41=true:=by kernel_rfl
theorem r43:bM Go.Proofs.Tryz.prog (kH T42) 5000 415 a43 v43=true:=by kernel_rfl
theorem r45:bM Go.Proofs.Tryz.prog (kH T44) 5000 25 a45 v45=true:=by kernel_rfl
theorem r47:bM Go.Proofs.Tryz.prog (kH T46) 5000 18 a47 v47=true:=by kernel_rfl
end
end Go.Proofs.YthakciolcdlphaaGreat.K
