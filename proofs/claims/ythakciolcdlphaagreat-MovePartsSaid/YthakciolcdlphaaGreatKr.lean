/-
  The program's own examples of the chapter, run by the kernel in pieces: they hold.
-/
import Derived.Test.YthakciolcdlphaaGreatKr1
import Derived.Test.YthakciolcdlphaaGreatKr2
import Derived.Test.YthakciolcdlphaaGreatKr3
import Derived.Test.YthakciolcdlphaaGreatKr4
set_option linter.unusedVariables false
set_option linter.unusedSimpArgs false
namespace Go.Proofs.YthakciolcdlphaaGreat.K
open Go.Abs Go.Proofs.YthakciolcdlphaaGreat
set_option maxRecDepth 100000
noncomputable section
def KT (T:kI):Prop:=∀ x∈T,Abs.Returns Go.Proofs.Tryz.prog x.1 x.2.1 x.2.2
theorem k0:KT []:=fun _ h=>nomatch h
theorem ks {T:kI} {f:FuncId} {a:List AV} {v:AV} (h:KT T) (r:bM Go.Proofs.Tryz.prog (kH T) 5000 f a v=true):KT ((f,a,v)::T):=fun x hx=>by
 rcases List.mem_cons.1 hx with rfl | hx
 ·exact LR (OW h) r
 ·exact h x hx
theorem k1:KT T0:=ks k0 r0
theorem k2:KT T1:=ks k1 r1
theorem k3:KT T2:=ks k2 r2
theorem k4:KT T3:=ks k3 r3
theorem k5:KT T4:=ks k4 r4
theorem k6:KT T5:=ks k5 r5
theorem k7:KT T6:=ks k6 r6
theorem k8:KT T7:=ks k7 r7
theorem k9:KT T8:=ks k8 r8
theorem SJ:KT T9:=ks k9 r9
theorem k11:KT T10:=ks SJ r10
theorem k12:KT T11:=ks k11 r11
theorem k13:KT T12:=ks k12 r12
theorem k14:KT T13:=ks k13 r13
theorem k15:KT T14:=ks k14 r14
theorem k16:KT T15:=ks k15 r15
theorem k17:KT T16:=ks k16 r16
theorem k18:KT T17:=ks k17 r17
theorem k19:KT T18:=ks k18 r18
theorem k20:KT T19:=ks k19 r19
theorem k21:KT T20:=ks k20 r20
theorem k22:KT T21:=ks k21 r21
theorem k23:KT T22:=ks k22 r22
theorem k24:KT T23:=ks k23 r23
theorem k25:KT T24:=ks k24 r24
theorem k26:KT T25:=ks k25 r25
theorem k27:KT T26:=ks k26 r26
theorem k28:KT T27:=ks k27 r27
theorem k29:KT T28:=ks k28 r28
theorem k30:KT T29:=ks k29 r29
theorem k31:KT T30:=ks k30 r30
theorem k32:KT T31:=ks k31 r31
theorem k33:KT T32:=ks k32 r32
theorem k34:KT T33:=ks k33 r33
theorem k35:KT T34:=ks k34 r34
theorem k36:KT T35:=ks k35 r35
theorem k37:KT T36:=ks k36 r36
theorem k38:KT T37:=ks k37 r37
theorem k39:KT T38:=ks k38 r38
theorem k40:KT T39:=ks k39 r39
theorem k41:KT T40:=ks k40 r40
theorem k42:KT T41:=ks k41 r41
theorem k43:KT T42:=ks k42 r42
theorem k44:KT T43:=ks k43 r43
theorem k45:KT T44:=ks k44 r44
theorem k46:KT T45:=ks k45 r45
theorem k47:KT T46:=ks k46 r46
theorem k48:KT T47:=ks k47 r47
theorem root_ok:Abs.Returns Go.Proofs.Tryz.prog 5 [] (.bool true):=returns_of (OW k48) (n:=5000) (by kernel_rfl)
end
end Go.Proofs.YthakciolcdlphaaGreat.K
