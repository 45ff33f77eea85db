/-
  Runs, by the kernel.
-/
import Derived.Test.YthakciolcdlphaaGreatKra
namespace Go.Proofs.YthakciolcdlphaaGreat.K
open Go.Abs Go.Proofs.YthakciolcdlphaaGreat
set_option maxRecDepth 100000
noncomputable section
theorem r0:bM Go.Proofs.Tryz.prog (kH []) 5000 179 a0 v0=true:=by kernel_rfl
theorem r1:bM Go.Proofs.Tryz.prog (kH T0) 5000 179 a1 v1=true:=by kernel_rfl
theorem r8:bM Go.Proofs.Tryz.prog (kH T7) 5000 179 a8 v8=true:=by kernel_rfl
theorem r10:bM Go.Proofs.Tryz.prog (kH T9) 5000 179 a10 v10=true:=by kernel_rfl
theorem r12:bM Go.Proofs.Tryz.prog (kH T11) 5000 179 a12 v12=true:=by kernel_rfl
theorem r16:bM Go.Proofs.Tryz.prog (kH T15) 5000 179 a16 v16=true:=by kernel_rfl
theorem r23:bM Go.Proofs.Tryz.prog (kH T22) 5000 39 a23 v23=true:=by kernel_rfl
theorem r32:bM Go.Proofs.Tryz.prog (kH T31) 5000 25 a32 v32=true:=by kernel_rfl
theorem r35:bM Go.Proofs.Tryz.prog (kH T34) 5000 6 a35 v35=true:=by kernel_rfl
theorem r36:bM Go.Proofs.Tryz.prog (kH T35) 5000 16 a36 v36=true:=by kernel_rfl
theorem r37:bM Go.Proofs.Tryz.prog (kH T36) 5000 19 a37 v37=true:=by kernel_rfl
theorem r39:bM Go.Proofs.Tryz.prog (kH T38) 5000 111 a39 v39=true:=by kernel_rfl
end
end Go.Proofs.YthakciolcdlphaaGreat.K
