/-
  Runs, by the kernel.
-/
import Derived.Test.YtdipddlhenoglaaGreatKra
namespace Go.Proofs.YtdipddlhenoglaaGreat.K
open Go.Abs Go.Proofs.YtdipddlhenoglaaGreat
set_option maxRecDepth 100000
noncomputable section
theorem r8:bB Go.Proofs.Tryz.prog (fD T7) 5000 209 a8 v8=true:=by kernel_rfl
theorem r10:bB Go.Proofs.Tryz.prog (fD T9) 5000 209 jE v10=true:=by kernel_rfl
theorem r18:bB Go.Proofs.Tryz.prog (fD T17) 5000 209 YU v18=true:=by kernel_rfl
theorem r19:bB Go.Proofs.Tryz.prog (fD T18) 5000 209 a19 v19=true:=by kernel_rfl
theorem r25:bB Go.Proofs.Tryz.prog (fD T24) 5000 203 a25 v25=true:=by kernel_rfl
theorem r40:bB Go.Proofs.Tryz.prog (fD T39) 5000 36 a40 v40=true:=by kernel_rfl
theorem r45:bB Go.Proofs.Tryz.prog (fD T44) 5000 21 a45 v45=true:=by kernel_rfl
theorem r49:bB Go.Proofs.Tryz.prog (fD T48) 5000 173 a49 v49=true:=by kernel_rfl
theorem r54:bB Go.Proofs.Tryz.prog (fD T53) 5000 220 a54 v54=true:=by kernel_rfl
theorem r56:bB Go.Proofs.Tryz.prog (fD T55) 5000 219 a56 v56=true:=by kernel_rfl
theorem r59:bB Go.Proofs.Tryz.prog (fD T58) 5000 173 a59 v59=true:=by kernel_rfl
theorem r73:bB Go.Proofs.Tryz.prog (fD T72) 5000 219 a73 v73=true:=by kernel_rfl
theorem r75:bB Go.Proofs.Tryz.prog (fD T74) 5000 219 a75 v75=true:=by kernel_rfl
end
end Go.Proofs.YtdipddlhenoglaaGreat.K
