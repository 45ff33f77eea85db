/-
  Runs, by the kernel.
-/
import Derived.Test.YtdipddlhenoglaaGreatKra
namespace Go.Proofs.YtdipddlhenoglaaGreat.K
open Go.Abs Go.Proofs.YtdipddlhenoglaaGreat
set_option maxRecDepth 100000
noncomputable section
theorem r8:bC Go.Proofs.Tryz.prog (eR T7) 5000 209 a8 v8=true:=by kernel_rfl
theorem r10:bC Go.Proofs.Tryz.prog (eR T9) 5000 209 jF v10=true:=by kernel_rfl
theorem r18:bC Go.Proofs.Tryz.prog (eR T17) 5000 209 ZH v18=true:=by kernel_rfl
theorem r19:bC Go.Proofs.Tryz.prog (eR T18) 5000 209 a19 v19=true:=by kernel_rfl
theorem r25:bC Go.Proofs.Tryz.prog (eR T24) 5000 203 a25 v25=true:=by kernel_rfl
theorem r40:bC Go.Proofs.Tryz.prog (eR T39) 5000 36 a40 v40=true:=by kernel_rfl
theorem r45:bC Go.Proofs.Tryz.prog (eR T44) 5000 21 a45 v45=true:=by kernel_rfl
theorem r49:bC Go.Proofs.Tryz.prog (eR T48) 5000 173 a49 v49=true:=by kernel_rfl
theorem r54:bC Go.Proofs.Tryz.prog (eR T53) 5000 220 a54 v54=true:=by kernel_rfl
theorem r56:bC Go.Proofs.Tryz.prog (eR T55) 5000 219 a56 v56=true:=by kernel_rfl
theorem r59:bC Go.Proofs.Tryz.prog (eR T58) 5000 173 a59 v59=true:=by kernel_rfl
theorem r73:bC Go.Proofs.Tryz.prog (eR T72) 5000 219 a73 v73=true:=by kernel_rfl
theorem r75:bC Go.Proofs.Tryz.prog (eR T74) 5000 219 a75 v75=true:=by kernel_rfl
end
end Go.Proofs.YtdipddlhenoglaaGreat.K
