/-
  Runs, by the kernel.
-/
import Derived.Test.YtdipddlhenoglaaGreatKra
namespace Go.Proofs.YtdipddlhenoglaaGreat.K
open Go.Abs Go.Proofs.YtdipddlhenoglaaGreat
set_option maxRecDepth 100000
noncomputable section
theorem r0:bB Go.Proofs.Tryz.prog (fD []) 5000 209 a0 v0=true:=by kernel_rfl
theorem r11:bB Go.Proofs.Tryz.prog (fD T10) 5000 209 kD v11=true:=by kernel_rfl
theorem r20:bB Go.Proofs.Tryz.prog (fD T19) 5000 209 a20 v20=true:=by kernel_rfl
theorem r23:bB Go.Proofs.Tryz.prog (fD T22) 5000 209 a23 v23=true:=by kernel_rfl
theorem r33:bB Go.Proofs.Tryz.prog (fD T32) 5000 126 a33 v33=true:=by kernel_rfl
theorem r36:bB Go.Proofs.Tryz.prog (fD T35) 5000 31 a36 v36=true:=by kernel_rfl
theorem r44:bB Go.Proofs.Tryz.prog (fD T43) 5000 58 a44 v44=true:=by kernel_rfl
theorem r46:bB Go.Proofs.Tryz.prog (fD T45) 5000 16 a46 v46=true:=by kernel_rfl
theorem r57:bB Go.Proofs.Tryz.prog (fD T56) 5000 220 a57 v57=true:=by kernel_rfl
theorem r60:bB Go.Proofs.Tryz.prog (fD T59) 5000 173 a60 v60=true:=by kernel_rfl
theorem r61:bB Go.Proofs.Tryz.prog (fD T60) 5000 219 a61 v61=true:=by kernel_rfl
theorem r64:bB Go.Proofs.Tryz.prog (fD T63) 5000 173 a64 v64=true:=by kernel_rfl
theorem r67:bB Go.Proofs.Tryz.prog (fD T66) 5000 220 a67 v67=true:=by kernel_rfl
theorem r76:bB Go.Proofs.Tryz.prog (fD T75) 5000 220 a76 v76=true:=by kernel_rfl
end
end Go.Proofs.YtdipddlhenoglaaGreat.K
