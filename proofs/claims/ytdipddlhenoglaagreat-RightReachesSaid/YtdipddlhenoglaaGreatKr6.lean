/-
  Runs, by the kernel.
-/
import Derived.Test.YtdipddlhenoglaaGreatKra
namespace Go.Proofs.YtdipddlhenoglaaGreat.K
open Go.Abs Go.Proofs.YtdipddlhenoglaaGreat
set_option maxRecDepth 100000
noncomputable section
theorem r0:aY Go.Proofs.Tryz.prog (eM []) 5000 209 a0 v0=true:=by kernel_rfl
theorem r11:aY Go.Proofs.Tryz.prog (eM T10) 5000 209 a11 v11=true:=by kernel_rfl
theorem r20:aY Go.Proofs.Tryz.prog (eM T19) 5000 209 a20 v20=true:=by kernel_rfl
theorem r23:aY Go.Proofs.Tryz.prog (eM T22) 5000 209 a23 v23=true:=by kernel_rfl
theorem r33:aY Go.Proofs.Tryz.prog (eM T32) 5000 126 a33 v33=true:=by kernel_rfl
theorem r36:aY Go.Proofs.Tryz.prog (eM T35) 5000 31 a36 v36=true:=by kernel_rfl
theorem r44:aY Go.Proofs.Tryz.prog (eM T43) 5000 58 a44 v44=true:=by kernel_rfl
theorem r46:aY Go.Proofs.Tryz.prog (eM T45) 5000 16 a46 v46=true:=by kernel_rfl
theorem r57:aY Go.Proofs.Tryz.prog (eM T56) 5000 220 a57 v57=true:=by kernel_rfl
theorem r60:aY Go.Proofs.Tryz.prog (eM T59) 5000 173 a60 v60=true:=by kernel_rfl
theorem r61:aY Go.Proofs.Tryz.prog (eM T60) 5000 219 a61 v61=true:=by kernel_rfl
theorem r64:aY Go.Proofs.Tryz.prog (eM T63) 5000 173 a64 v64=true:=by kernel_rfl
theorem r67:aY Go.Proofs.Tryz.prog (eM T66) 5000 220 a67 v67=true:=by kernel_rfl
theorem r76:aY Go.Proofs.Tryz.prog (eM T75) 5000 220 a76 v76=true:=by kernel_rfl
end
end Go.Proofs.YtdipddlhenoglaaGreat.K
