/-
  Runs, by the kernel.
-/
import Derived.Test.YtdipddlhenoglaaGreatKra
namespace Go.Proofs.YtdipddlhenoglaaGreat.K
open Go.Abs Go.Proofs.YtdipddlhenoglaaGreat
set_option maxRecDepth 100000
noncomputable section
theorem r8:aY Go.Proofs.Tryz.prog (eM T7) 5000 209 a8 v8=true:=by kernel_rfl
theorem r10:aY Go.Proofs.Tryz.prog (eM T9) 5000 209 a10 v10=true:=by kernel_rfl
theorem r18:aY Go.Proofs.Tryz.prog (eM T17) 5000 209 a18 v18=true:=by kernel_rfl
theorem r19:aY Go.Proofs.Tryz.prog (eM T18) 5000 209 a19 v19=true:=by kernel_rfl
theorem r25:aY Go.Proofs.Tryz.prog (eM T24) 5000 203 a25 v25=true:=by kernel_rfl
theorem r40:aY Go.Proofs.Tryz.prog (eM T39) 5000 36 a40 v40=true:=by kernel_rfl
theorem r45:aY Go.Proofs.Tryz.prog (eM T44) 5000 21 a45 v45=true:=by kernel_rfl
theorem r49:aY Go.Proofs.Tryz.prog (eM T48) 5000 173 a49 v49=true:=by kernel_rfl
theorem r54:aY Go.Proofs.Tryz.prog (eM T53) 5000 220 a54 v54=true:=by kernel_rfl
theorem r56:aY Go.Proofs.Tryz.prog (eM T55) 5000 219 a56 v56=true:=by kernel_rfl
theorem r59:aY Go.Proofs.Tryz.prog (eM T58) 5000 173 a59 v59=true:=by kernel_rfl
theorem r73:aY Go.Proofs.Tryz.prog (eM T72) 5000 219 a73 v73=true:=by kernel_rfl
theorem r75:aY Go.Proofs.Tryz.prog (eM T74) 5000 219 a75 v75=true:=by kernel_rfl
end
end Go.Proofs.YtdipddlhenoglaaGreat.K
