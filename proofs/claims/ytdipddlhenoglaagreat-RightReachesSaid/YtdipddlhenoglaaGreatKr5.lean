/-
  Runs, by the kernel.
-/
import Derived.Test.YtdipddlhenoglaaGreatKra
namespace Go.Proofs.YtdipddlhenoglaaGreat.K
open Go.Abs Go.Proofs.YtdipddlhenoglaaGreat
set_option maxRecDepth 100000
noncomputable section
theorem r1:aY Go.Proofs.Tryz.prog (eM T0) 5000 209 a1 v1=true:=by kernel_rfl
theorem r6:aY Go.Proofs.Tryz.prog (eM T5) 5000 209 a6 v6=true:=by kernel_rfl
theorem r13:aY Go.Proofs.Tryz.prog (eM T12) 5000 209 a13 v13=true:=by kernel_rfl
theorem r16:aY Go.Proofs.Tryz.prog (eM T15) 5000 209 a16 v16=true:=by kernel_rfl
theorem r29:aY Go.Proofs.Tryz.prog (eM T28) 5000 28 a29 v29=true:=by kernel_rfl
theorem r31:aY Go.Proofs.Tryz.prog (eM T30) 5000 126 a31 v31=true:=by kernel_rfl
theorem r32:aY Go.Proofs.Tryz.prog (eM T31) 5000 34 a32 v32=true:=by kernel_rfl
theorem r35:aY Go.Proofs.Tryz.prog (eM T34) 5000 117 a35 v35=true:=by kernel_rfl
theorem r37:aY Go.Proofs.Tryz.prog (eM T36) 5000 8 a37 v37=true:=by kernel_rfl
theorem r39:aY Go.Proofs.Tryz.prog (eM T38) 5000 36 a39 v39=true:=by kernel_rfl
theorem r52:aY Go.Proofs.Tryz.prog (eM T51) 5000 173 a52 v52=true:=by kernel_rfl
theorem r53:aY Go.Proofs.Tryz.prog (eM T52) 5000 219 a53 v53=true:=by kernel_rfl
theorem r69:aY Go.Proofs.Tryz.prog (eM T68) 5000 219 a69 v69=true:=by kernel_rfl
theorem r74:aY Go.Proofs.Tryz.prog (eM T73) 5000 220 a74 v74=true:=by kernel_rfl
end
end Go.Proofs.YtdipddlhenoglaaGreat.K
