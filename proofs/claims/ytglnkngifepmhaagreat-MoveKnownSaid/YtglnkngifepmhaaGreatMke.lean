/-
  A closed run in pieces: what the calls return.
-/
import Derived.Test.YtglnkngifepmhaaGreatMk1
import Derived.Test.YtglnkngifepmhaaGreatMk2
import Derived.Test.YtglnkngifepmhaaGreatMk3
import Derived.Test.YtglnkngifepmhaaGreatMk4
import Derived.Test.YtglnkngifepmhaaGreatMk5
set_option linter.unusedVariables false
set_option linter.unusedSimpArgs false

namespace Go.Proofs.YtglnkngifepmhaaGreat
open Go.Abs
set_option maxRecDepth 100000
noncomputable section

theorem k0 : ∀ x ∈ t0, Abs.Returns Go.Proofs.Tryz.prog x.1 x.2.1 x.2.2 := fun x hx => by
  rcases List.mem_cons.1 hx with rfl | hx
  · exact returns_ofF (tab_ok (T := []) (fun x hx => nomatch hx)) r0
  · exact nomatch hx
theorem k1 : ∀ x ∈ t1, Abs.Returns Go.Proofs.Tryz.prog x.1 x.2.1 x.2.2 := fun x hx => by
  rcases List.mem_cons.1 hx with rfl | hx
  · exact returns_ofF (tab_ok k0) r1
  · exact k0 x hx
theorem k2 : ∀ x ∈ t2, Abs.Returns Go.Proofs.Tryz.prog x.1 x.2.1 x.2.2 := fun x hx => by
  rcases List.mem_cons.1 hx with rfl | hx
  · exact returns_ofF (tab_ok k1) r2
  · exact k1 x hx
theorem k3 : ∀ x ∈ t3, Abs.Returns Go.Proofs.Tryz.prog x.1 x.2.1 x.2.2 := fun x hx => by
  rcases List.mem_cons.1 hx with rfl | hx
  · exact returns_ofF (tab_ok k2) r3
  · exact k2 x hx
theorem k4 : ∀ x ∈ t4, Abs.Returns Go.Proofs.Tryz.prog x.1 x.2.1 x.2.2 := fun x hx => by
  rcases List.mem_cons.1 hx with rfl | hx
  · exact returns_ofF (tab_ok k3) r4
  · exact k3 x hx
theorem k5 : ∀ x ∈ t5, Abs.Returns Go.Proofs.Tryz.prog x.1 x.2.1 x.2.2 := fun x hx => by
  rcases List.mem_cons.1 hx with rfl | hx
  · exact returns_ofF (tab_ok k4) r5
  · exact k4 x hx
theorem k6 : ∀ x ∈ t6, Abs.Returns Go.Proofs.Tryz.prog x.1 x.2.1 x.2.2 := fun x hx => by
  rcases List.mem_cons.1 hx with rfl | hx
  · exact returns_ofF (tab_ok k5) r6
  · exact k5 x hx
theorem k7 : ∀ x ∈ t7, Abs.Returns Go.Proofs.Tryz.prog x.1 x.2.1 x.2.2 := fun x hx => by
  rcases List.mem_cons.1 hx with rfl | hx
  · exact returns_ofF (tab_ok k6) r7
  · exact k6 x hx
theorem k8 : ∀ x ∈ t8, Abs.Returns Go.Proofs.Tryz.prog x.1 x.2.1 x.2.2 := fun x hx => by
  rcases List.mem_cons.1 hx with rfl | hx
  · exact returns_ofF (tab_ok k7) r8
  · exact k7 x hx
theorem k9 : ∀ x ∈ t9, Abs.Returns Go.Proofs.Tryz.prog x.1 x.2.1 x.2.2 := fun x hx => by
  rcases List.mem_cons.1 hx with rfl | hx
  · exact returns_ofF (tab_ok k8) r9
  · exact k8 x hx
theorem k10 : ∀ x ∈ t10, Abs.Returns Go.Proofs.Tryz.prog x.1 x.2.1 x.2.2 := fun x hx => by
  rcases List.mem_cons.1 hx with rfl | hx
  · exact returns_ofF (tab_ok k9) r10
  · exact k9 x hx
theorem k11 : ∀ x ∈ t11, Abs.Returns Go.Proofs.Tryz.prog x.1 x.2.1 x.2.2 := fun x hx => by
  rcases List.mem_cons.1 hx with rfl | hx
  · exact returns_ofF (tab_ok k10) r11
  · exact k10 x hx
theorem k12 : ∀ x ∈ t12, Abs.Returns Go.Proofs.Tryz.prog x.1 x.2.1 x.2.2 := fun x hx => by
  rcases List.mem_cons.1 hx with rfl | hx
  · exact returns_ofF (tab_ok k11) r12
  · exact k11 x hx
theorem k13 : ∀ x ∈ t13, Abs.Returns Go.Proofs.Tryz.prog x.1 x.2.1 x.2.2 := fun x hx => by
  rcases List.mem_cons.1 hx with rfl | hx
  · exact returns_ofF (tab_ok k12) r13
  · exact k12 x hx
theorem k14 : ∀ x ∈ t14, Abs.Returns Go.Proofs.Tryz.prog x.1 x.2.1 x.2.2 := fun x hx => by
  rcases List.mem_cons.1 hx with rfl | hx
  · exact returns_ofF (tab_ok k13) r14
  · exact k13 x hx
theorem k15 : ∀ x ∈ t15, Abs.Returns Go.Proofs.Tryz.prog x.1 x.2.1 x.2.2 := fun x hx => by
  rcases List.mem_cons.1 hx with rfl | hx
  · exact returns_ofF (tab_ok k14) r15
  · exact k14 x hx
theorem k16 : ∀ x ∈ t16, Abs.Returns Go.Proofs.Tryz.prog x.1 x.2.1 x.2.2 := fun x hx => by
  rcases List.mem_cons.1 hx with rfl | hx
  · exact returns_ofF (tab_ok k15) r16
  · exact k15 x hx
theorem k17 : ∀ x ∈ t17, Abs.Returns Go.Proofs.Tryz.prog x.1 x.2.1 x.2.2 := fun x hx => by
  rcases List.mem_cons.1 hx with rfl | hx
  · exact returns_ofF (tab_ok k16) r17
  · exact k16 x hx
theorem k18 : ∀ x ∈ t18, Abs.Returns Go.Proofs.Tryz.prog x.1 x.2.1 x.2.2 := fun x hx => by
  rcases List.mem_cons.1 hx with rfl | hx
  · exact returns_ofF (tab_ok k17) r18
  · exact k17 x hx
theorem k19 : ∀ x ∈ t19, Abs.Returns Go.Proofs.Tryz.prog x.1 x.2.1 x.2.2 := fun x hx => by
  rcases List.mem_cons.1 hx with rfl | hx
  · exact returns_ofF (tab_ok k18) r19
  · exact k18 x hx
theorem k20 : ∀ x ∈ t20, Abs.Returns Go.Proofs.Tryz.prog x.1 x.2.1 x.2.2 := fun x hx => by
  rcases List.mem_cons.1 hx with rfl | hx
  · exact returns_ofF (tab_ok k19) r20
  · exact k19 x hx
theorem k21 : ∀ x ∈ t21, Abs.Returns Go.Proofs.Tryz.prog x.1 x.2.1 x.2.2 := fun x hx => by
  rcases List.mem_cons.1 hx with rfl | hx
  · exact returns_ofF (tab_ok k20) r21
  · exact k20 x hx
theorem k22 : ∀ x ∈ t22, Abs.Returns Go.Proofs.Tryz.prog x.1 x.2.1 x.2.2 := fun x hx => by
  rcases List.mem_cons.1 hx with rfl | hx
  · exact returns_ofF (tab_ok k21) r22
  · exact k21 x hx
theorem k23 : ∀ x ∈ t23, Abs.Returns Go.Proofs.Tryz.prog x.1 x.2.1 x.2.2 := fun x hx => by
  rcases List.mem_cons.1 hx with rfl | hx
  · exact returns_ofF (tab_ok k22) r23
  · exact k22 x hx
theorem k24 : ∀ x ∈ t24, Abs.Returns Go.Proofs.Tryz.prog x.1 x.2.1 x.2.2 := fun x hx => by
  rcases List.mem_cons.1 hx with rfl | hx
  · exact returns_ofF (tab_ok k23) r24
  · exact k23 x hx
theorem k25 : ∀ x ∈ t25, Abs.Returns Go.Proofs.Tryz.prog x.1 x.2.1 x.2.2 := fun x hx => by
  rcases List.mem_cons.1 hx with rfl | hx
  · exact returns_ofF (tab_ok k24) r25
  · exact k24 x hx
theorem k26 : ∀ x ∈ t26, Abs.Returns Go.Proofs.Tryz.prog x.1 x.2.1 x.2.2 := fun x hx => by
  rcases List.mem_cons.1 hx with rfl | hx
  · exact returns_ofF (tab_ok k25) r26
  · exact k25 x hx
theorem k27 : ∀ x ∈ t27, Abs.Returns Go.Proofs.Tryz.prog x.1 x.2.1 x.2.2 := fun x hx => by
  rcases List.mem_cons.1 hx with rfl | hx
  · exact returns_ofF (tab_ok k26) r27
  · exact k26 x hx
theorem k28 : ∀ x ∈ t28, Abs.Returns Go.Proofs.Tryz.prog x.1 x.2.1 x.2.2 := fun x hx => by
  rcases List.mem_cons.1 hx with rfl | hx
  · exact returns_ofF (tab_ok k27) r28
  · exact k27 x hx
theorem k29 : ∀ x ∈ t29, Abs.Returns Go.Proofs.Tryz.prog x.1 x.2.1 x.2.2 := fun x hx => by
  rcases List.mem_cons.1 hx with rfl | hx
  · exact returns_ofF (tab_ok k28) r29
  · exact k28 x hx
theorem k30 : ∀ x ∈ t30, Abs.Returns Go.Proofs.Tryz.prog x.1 x.2.1 x.2.2 := fun x hx => by
  rcases List.mem_cons.1 hx with rfl | hx
  · exact returns_ofF (tab_ok k29) r30
  · exact k29 x hx
theorem k31 : ∀ x ∈ t31, Abs.Returns Go.Proofs.Tryz.prog x.1 x.2.1 x.2.2 := fun x hx => by
  rcases List.mem_cons.1 hx with rfl | hx
  · exact returns_ofF (tab_ok k30) r31
  · exact k30 x hx
theorem k32 : ∀ x ∈ t32, Abs.Returns Go.Proofs.Tryz.prog x.1 x.2.1 x.2.2 := fun x hx => by
  rcases List.mem_cons.1 hx with rfl | hx
  · exact returns_ofF (tab_ok k31) r32
  · exact k31 x hx
theorem k33 : ∀ x ∈ t33, Abs.Returns Go.Proofs.Tryz.prog x.1 x.2.1 x.2.2 := fun x hx => by
  rcases List.mem_cons.1 hx with rfl | hx
  · exact returns_ofF (tab_ok k32) r33
  · exact k32 x hx
theorem k34 : ∀ x ∈ t34, Abs.Returns Go.Proofs.Tryz.prog x.1 x.2.1 x.2.2 := fun x hx => by
  rcases List.mem_cons.1 hx with rfl | hx
  · exact returns_ofF (tab_ok k33) r34
  · exact k33 x hx
theorem k35 : ∀ x ∈ t35, Abs.Returns Go.Proofs.Tryz.prog x.1 x.2.1 x.2.2 := fun x hx => by
  rcases List.mem_cons.1 hx with rfl | hx
  · exact returns_ofF (tab_ok k34) r35
  · exact k34 x hx
theorem k36 : ∀ x ∈ t36, Abs.Returns Go.Proofs.Tryz.prog x.1 x.2.1 x.2.2 := fun x hx => by
  rcases List.mem_cons.1 hx with rfl | hx
  · exact returns_ofF (tab_ok k35) r36
  · exact k35 x hx
theorem k37 : ∀ x ∈ t37, Abs.Returns Go.Proofs.Tryz.prog x.1 x.2.1 x.2.2 := fun x hx => by
  rcases List.mem_cons.1 hx with rfl | hx
  · exact returns_ofF (tab_ok k36) r37
  · exact k36 x hx
theorem k38 : ∀ x ∈ t38, Abs.Returns Go.Proofs.Tryz.prog x.1 x.2.1 x.2.2 := fun x hx => by
  rcases List.mem_cons.1 hx with rfl | hx
  · exact returns_ofF (tab_ok k37) r38
  · exact k37 x hx
theorem k39 : ∀ x ∈ t39, Abs.Returns Go.Proofs.Tryz.prog x.1 x.2.1 x.2.2 := fun x hx => by
  rcases List.mem_cons.1 hx with rfl | hx
  · exact returns_ofF (tab_ok k38) r39
  · exact k38 x hx
theorem k40 : ∀ x ∈ t40, Abs.Returns Go.Proofs.Tryz.prog x.1 x.2.1 x.2.2 := fun x hx => by
  rcases List.mem_cons.1 hx with rfl | hx
  · exact returns_ofF (tab_ok k39) r40
  · exact k39 x hx
theorem k41 : ∀ x ∈ t41, Abs.Returns Go.Proofs.Tryz.prog x.1 x.2.1 x.2.2 := fun x hx => by
  rcases List.mem_cons.1 hx with rfl | hx
  · exact returns_ofF (tab_ok k40) r41
  · exact k40 x hx
theorem k42 : ∀ x ∈ t42, Abs.Returns Go.Proofs.Tryz.prog x.1 x.2.1 x.2.2 := fun x hx => by
  rcases List.mem_cons.1 hx with rfl | hx
  · exact returns_ofF (tab_ok k41) r42
  · exact k41 x hx
theorem k43 : ∀ x ∈ t43, Abs.Returns Go.Proofs.Tryz.prog x.1 x.2.1 x.2.2 := fun x hx => by
  rcases List.mem_cons.1 hx with rfl | hx
  · exact returns_ofF (tab_ok k42) r43
  · exact k42 x hx
theorem k44 : ∀ x ∈ t44, Abs.Returns Go.Proofs.Tryz.prog x.1 x.2.1 x.2.2 := fun x hx => by
  rcases List.mem_cons.1 hx with rfl | hx
  · exact returns_ofF (tab_ok k43) r44
  · exact k43 x hx
theorem k45 : ∀ x ∈ t45, Abs.Returns Go.Proofs.Tryz.prog x.1 x.2.1 x.2.2 := fun x hx => by
  rcases List.mem_cons.1 hx with rfl | hx
  · exact returns_ofF (tab_ok k44) r45
  · exact k44 x hx
theorem k46 : ∀ x ∈ t46, Abs.Returns Go.Proofs.Tryz.prog x.1 x.2.1 x.2.2 := fun x hx => by
  rcases List.mem_cons.1 hx with rfl | hx
  · exact returns_ofF (tab_ok k45) r46
  · exact k45 x hx
theorem k47 : ∀ x ∈ t47, Abs.Returns Go.Proofs.Tryz.prog x.1 x.2.1 x.2.2 := fun x hx => by
  rcases List.mem_cons.1 hx with rfl | hx
  · exact returns_ofF (tab_ok k46) r47
  · exact k46 x hx
theorem k48 : ∀ x ∈ t48, Abs.Returns Go.Proofs.Tryz.prog x.1 x.2.1 x.2.2 := fun x hx => by
  rcases List.mem_cons.1 hx with rfl | hx
  · exact returns_ofF (tab_ok k47) r48
  · exact k47 x hx
theorem k49 : ∀ x ∈ t49, Abs.Returns Go.Proofs.Tryz.prog x.1 x.2.1 x.2.2 := fun x hx => by
  rcases List.mem_cons.1 hx with rfl | hx
  · exact returns_ofF (tab_ok k48) r49
  · exact k48 x hx
theorem k50 : ∀ x ∈ t50, Abs.Returns Go.Proofs.Tryz.prog x.1 x.2.1 x.2.2 := fun x hx => by
  rcases List.mem_cons.1 hx with rfl | hx
  · exact returns_ofF (tab_ok k49) r50
  · exact k49 x hx
theorem k51 : ∀ x ∈ t51, Abs.Returns Go.Proofs.Tryz.prog x.1 x.2.1 x.2.2 := fun x hx => by
  rcases List.mem_cons.1 hx with rfl | hx
  · exact returns_ofF (tab_ok k50) r51
  · exact k50 x hx
theorem k52 : ∀ x ∈ t52, Abs.Returns Go.Proofs.Tryz.prog x.1 x.2.1 x.2.2 := fun x hx => by
  rcases List.mem_cons.1 hx with rfl | hx
  · exact returns_ofF (tab_ok k51) r52
  · exact k51 x hx
theorem k53 : ∀ x ∈ t53, Abs.Returns Go.Proofs.Tryz.prog x.1 x.2.1 x.2.2 := fun x hx => by
  rcases List.mem_cons.1 hx with rfl | hx
  · exact returns_ofF (tab_ok k52) r53
  · exact k52 x hx
theorem k54 : ∀ x ∈ t54, Abs.Returns Go.Proofs.Tryz.prog x.1 x.2.1 x.2.2 := fun x hx => by
  rcases List.mem_cons.1 hx with rfl | hx
  · exact returns_ofF (tab_ok k53) r54
  · exact k53 x hx
theorem k55 : ∀ x ∈ t55, Abs.Returns Go.Proofs.Tryz.prog x.1 x.2.1 x.2.2 := fun x hx => by
  rcases List.mem_cons.1 hx with rfl | hx
  · exact returns_ofF (tab_ok k54) r55
  · exact k54 x hx
theorem k56 : ∀ x ∈ t56, Abs.Returns Go.Proofs.Tryz.prog x.1 x.2.1 x.2.2 := fun x hx => by
  rcases List.mem_cons.1 hx with rfl | hx
  · exact returns_ofF (tab_ok k55) r56
  · exact k55 x hx
theorem runRoot : dval Go.Proofs.Tryz.prog (tab t56) 5000 4 [] (.bool true) = true := by kernel_rfl
theorem root_ok : Abs.Returns Go.Proofs.Tryz.prog 4 [] (.bool true) := returns_of (tab_ok k56) runRoot
end
end Go.Proofs.YtglnkngifepmhaaGreat
