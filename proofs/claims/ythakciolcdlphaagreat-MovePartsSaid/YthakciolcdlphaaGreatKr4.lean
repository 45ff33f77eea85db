/-
  Runs, by the kernel.
-/
import Derived.Test.YthakciolcdlphaaGreatKra
namespace Go.Proofs.YthakciolcdlphaaGreat.K
open Go.Abs Go.Proofs.YthakciolcdlphaaGreat
set_option maxRecDepth 100000
noncomputable section
theorem r2:bM Go.Proofs.Tryz.prog (kH T1) 5000 179 a2 v2=true:=by kernel_rfl
theorem r3:bM Go.Proofs.Tryz.prog (kH T2) 5000 179 a3 v3=true:=by kernel_rfl
theorem r7:bM Go.Proofs.Tryz.prog (kH T6) 5000 179 a7 v7=true:=by kernel_rfl
theorem r11:bM Go.Proofs.Tryz.prog (kH T10) 5000 179 a11 v11=true:=by kernel_rfl
theorem r17:bM Go.Proofs.Tryz.prog (kH T16) 5000 179 a17 v17=true:=by kernel_rfl
theorem r18:bM Go.Proofs.Tryz.prog (kH T17) 5000 179 a18 v18=true:=by kernel_rfl
theorem r22:bM Go.Proofs.Tryz.prog (kH T21) 5000 124 a22 v22=true:=by kernel_rfl
theorem r28:bM Go.Proofs.Tryz.prog (kH T27) 5000 15 a28 v28=true:=by kernel_rfl
theorem r30:bM Go.Proofs.Tryz.prog (kH T29) 5000 20 a30 v30=true:=by kernel_rfl
theorem r34:bM Go.Proofs.Tryz.prog (kH T33) 5000 6 a34 v34=true:=by kernel_rfl
theorem r38:bM Go.Proofs.Tryz.prog (kH T37) 5000 18 a38 v38=true:=by kernel_rfl
theorem r42:bM Go.Proofs.Tryz.prog (kH T41) 5000 22 a42 v42=true:=by kernel_rfl
theorem r46:bM Go.Proofs.Tryz.prog (kH T45) 5000 23 a46 v46=true:=by kernel_rfl
end
end Go.Proofs.YthakciolcdlphaaGreat.K
