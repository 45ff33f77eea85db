/-
  Runs, by the kernel.
-/
import Derived.Test.YtdipddlhenoglaaGreatKra
namespace Go.Proofs.YtdipddlhenoglaaGreat.K
open Go.Abs Go.Proofs.YtdipddlhenoglaaGreat
set_option maxRecDepth 100000
noncomputable section
theorem r1:bB Go.Proofs.Tryz.prog (fD T0) 5000 209 a1 v1=true:=by kernel_rfl
theorem r6:bB Go.Proofs.Tryz.prog (fD T5) 5000 209 a6 v6=true:=by kernel_rfl
theorem r13:bB Go.Proofs.Tryz.prog (fD T12) 5000 209 oH v13=true:=by kernel_rfl
theorem r16:bB Go.Proofs.Tryz.prog (fD T15) 5000 209 BV v16=true:=by kernel_rfl
theorem r29:bB Go.Proofs.Tryz.prog (fD T28) 5000 28 a29 v29=true:=by kernel_rfl
theorem r31:bB Go.Proofs.Tryz.prog (fD T30) 5000 126 a31 v31=true:=by kernel_rfl
theorem r32:bB Go.Proofs.Tryz.prog (fD T31) 5000 34 a32 v32=true:=by kernel_rfl
theorem r35:bB Go.Proofs.Tryz.prog (fD T34) 5000 117 a35 v35=true:=by kernel_rfl
theorem r37:bB Go.Proofs.Tryz.prog (fD T36) 5000 8 a37 v37=true:=by kernel_rfl
theorem r39:bB Go.Proofs.Tryz.prog (fD T38) 5000 36 a39 v39=true:=by kernel_rfl
theorem r52:bB Go.Proofs.Tryz.prog (fD T51) 5000 173 a52 v52=true:=by kernel_rfl
theorem r53:bB Go.Proofs.Tryz.prog (fD T52) 5000 219 a53 v53=true:=by kernel_rfl
theorem r69:bB Go.Proofs.Tryz.prog (fD T68) 5000 219 a69 v69=true:=by kernel_rfl
theorem r74:bB Go.Proofs.Tryz.prog (fD T73) 5000 220 a74 v74=true:=by kernel_rfl
end
end Go.Proofs.YtdipddlhenoglaaGreat.K
