/-
  Programs, worlds and states, in plain words, as they lie in the machine.
-/
import Derived.Test.YtifmdaalhclhgaaGreatEy
import Derived.Test.YtifmdaalhclhgaaGreatEp
import Derived.Test.YtifmdaalhclhgaaGreatEt
import Derived.Test.YtifmdaalhclhgaaGreatTf
set_option linter.unusedVariables false
set_option linter.unusedSimpArgs false
namespace Go.Abs
noncomputable section
theorem wS:type_of% (And.intro @ne_eq.{1} (And.intro @if_true.{1} (And.intro @if_true.{0} (And.intro @if_false.{1} (And.intro @if_false.{0} (And.intro @aSz (And.intro @wgu (And.intro @xV (And.intro @xW (And.intro @Bool.false_and (And.intro @Bool.true_and (And.intro @Bool.and_false (And.intro @Bool.and_true (And.intro @decide_true (@decide_false))))))))))))))):=And.intro @ne_eq.{1} (And.intro @if_true.{1} (And.intro @if_true.{0} (And.intro @if_false.{1} (And.intro @if_false.{0} (And.intro @aSz (And.intro @wgu (And.intro @xV (And.intro @xW (And.intro @Bool.false_and (And.intro @Bool.true_and (And.intro @Bool.and_false (And.intro @Bool.and_true (And.intro @decide_true (@decide_false))))))))))))))
theorem wT:type_of% (And.intro @if_true.{1} (And.intro @if_true.{0} (And.intro @if_false.{1} (And.intro @if_false.{0} (And.intro @decide_true (And.intro @decide_false (And.intro @Bool.false_and (And.intro @Bool.true_and (And.intro @Bool.and_false (And.intro @Bool.and_true (And.intro @Bool.not_true (And.intro @Bool.not_false (And.intro @Bool.or_false (And.intro @Bool.false_or (And.intro @Bool.true_or (And.intro @Bool.or_true (And.intro @List.getD_cons_zero.{0} (@List.getD_cons_succ.{0})))))))))))))))))):=And.intro @if_true.{1} (And.intro @if_true.{0} (And.intro @if_false.{1} (And.intro @if_false.{0} (And.intro @decide_true (And.intro @decide_false (And.intro @Bool.false_and (And.intro @Bool.true_and (And.intro @Bool.and_false (And.intro @Bool.and_true (And.intro @Bool.not_true (And.intro @Bool.not_false (And.intro @Bool.or_false (And.intro @Bool.false_or (And.intro @Bool.true_or (And.intro @Bool.or_true (And.intro @List.getD_cons_zero.{0} (@List.getD_cons_succ.{0})))))))))))))))))
end
end Go.Abs
namespace Go.Abs
section
open Go.Abs.TryzF
theorem GW {a p q:Prop} (h:a->p=q:=by (intro z;conv=>(lhs;simp +contextual +decide (maxSteps:=1000000) only [↓ wP,wQ,tf,Nat.reduceAdd,Nat.reduceMul,wS,reduceCtorEq,z]))):a->p=q:=h
theorem GX {a p:Prop} (h:a->p:=by (intro z;simp +contextual +decide (maxSteps:=1000000) only [↓ wP,wQ,tf,Nat.reduceAdd,Nat.reduceMul,wS,reduceCtorEq,z])):a->p:=h
theorem GY {p q:Prop} (g:q) (h:p=q:=by conv=>(lhs;simp +contextual +decide (maxSteps:=1000000) only [↓ wP,wQ,tf,Nat.reduceAdd,Nat.reduceMul,wS,reduceCtorEq])):p:=h.mpr g
theorem az0 {p:Prop} (h:p:=by simp +contextual +decide (maxSteps:=1000000) only [↓ wP,wQ,tf,Nat.reduceAdd,Nat.reduceMul,wS,reduceCtorEq]):p:=h
theorem FJ {a0 p q:Prop} (x0:a0) (g:q) (h:a0->p=q:=by exact GW):p:=(h x0).mpr g
theorem ap2 {a0 a1 p q:Prop} (x0:a0) (x1:a1) (g:q) (h:a0/\a1->p=q:=by exact GW):p:=(h ⟨x0,x1⟩).mpr g
theorem yQ {a0 a1 a2 p q:Prop} (x0:a0) (x1:a1) (x2:a2) (g:q) (h:a0/\a1/\a2->p=q:=by exact GW):p:=(h ⟨x0,x1,x2⟩).mpr g
theorem NA {a0 a1 a2 a3 p q:Prop} (x0:a0) (x1:a1) (x2:a2) (x3:a3) (g:q) (h:a0/\a1/\a2/\a3->p=q:=by exact GW):p:=(h ⟨x0,x1,x2,x3⟩).mpr g
theorem VV {a0 a1 a2 a3 a4 p q:Prop} (x0:a0) (x1:a1) (x2:a2) (x3:a3) (x4:a4) (g:q) (h:a0/\a1/\a2/\a3/\a4->p=q:=by exact GW):p:=(h ⟨x0,x1,x2,x3,x4⟩).mpr g
theorem ap6 {a0 a1 a2 a3 a4 a5 p q:Prop} (x0:a0) (x1:a1) (x2:a2) (x3:a3) (x4:a4) (x5:a5) (g:q) (h:a0/\a1/\a2/\a3/\a4/\a5->p=q:=by exact GW):p:=(h ⟨x0,x1,x2,x3,x4,x5⟩).mpr g
theorem ap7 {a0 a1 a2 a3 a4 a5 a6 p q:Prop} (x0:a0) (x1:a1) (x2:a2) (x3:a3) (x4:a4) (x5:a5) (x6:a6) (g:q) (h:a0/\a1/\a2/\a3/\a4/\a5/\a6->p=q:=by exact GW):p:=(h ⟨x0,x1,x2,x3,x4,x5,x6⟩).mpr g
theorem ap8 {a0 a1 a2 a3 a4 a5 a6 a7 p q:Prop} (x0:a0) (x1:a1) (x2:a2) (x3:a3) (x4:a4) (x5:a5) (x6:a6) (x7:a7) (g:q) (h:a0/\a1/\a2/\a3/\a4/\a5/\a6/\a7->p=q:=by exact GW):p:=(h ⟨x0,x1,x2,x3,x4,x5,x6,x7⟩).mpr g
theorem ap9 {a0 a1 a2 a3 a4 a5 a6 a7 a8 p q:Prop} (x0:a0) (x1:a1) (x2:a2) (x3:a3) (x4:a4) (x5:a5) (x6:a6) (x7:a7) (x8:a8) (g:q) (h:a0/\a1/\a2/\a3/\a4/\a5/\a6/\a7/\a8->p=q:=by exact GW):p:=(h ⟨x0,x1,x2,x3,x4,x5,x6,x7,x8⟩).mpr g
theorem BC {a0 a1 a2 a3 a4 a5 a6 a7 a8 a9 p q:Prop} (x0:a0) (x1:a1) (x2:a2) (x3:a3) (x4:a4) (x5:a5) (x6:a6) (x7:a7) (x8:a8) (x9:a9) (g:q) (h:a0/\a1/\a2/\a3/\a4/\a5/\a6/\a7/\a8/\a9->p=q:=by exact GW):p:=(h ⟨x0,x1,x2,x3,x4,x5,x6,x7,x8,x9⟩).mpr g
theorem NB {a0 a1 a2 a3 a4 a5 a6 a7 a8 a9 iW p q:Prop} (x0:a0) (x1:a1) (x2:a2) (x3:a3) (x4:a4) (x5:a5) (x6:a6) (x7:a7) (x8:a8) (x9:a9) (x10:iW) (g:q) (h:a0/\a1/\a2/\a3/\a4/\a5/\a6/\a7/\a8/\a9/\iW->p=q:=by exact GW):p:=(h ⟨x0,x1,x2,x3,x4,x5,x6,x7,x8,x9,x10⟩).mpr g
theorem sG {a0 a1 a2 a3 a4 a5 a6 a7 a8 a9 iW kG p q:Prop} (x0:a0) (x1:a1) (x2:a2) (x3:a3) (x4:a4) (x5:a5) (x6:a6) (x7:a7) (x8:a8) (x9:a9) (x10:iW) (x11:kG) (g:q) (h:a0/\a1/\a2/\a3/\a4/\a5/\a6/\a7/\a8/\a9/\iW/\kG->p=q:=by exact GW):p:=(h ⟨x0,x1,x2,x3,x4,x5,x6,x7,x8,x9,x10,x11⟩).mpr g
theorem FK {a0 a1 a2 a3 a4 a5 a6 a7 a8 a9 iW kG mA p q:Prop} (x0:a0) (x1:a1) (x2:a2) (x3:a3) (x4:a4) (x5:a5) (x6:a6) (x7:a7) (x8:a8) (x9:a9) (x10:iW) (x11:kG) (x12:mA) (g:q) (h:a0/\a1/\a2/\a3/\a4/\a5/\a6/\a7/\a8/\a9/\iW/\kG/\mA->p=q:=by exact GW):p:=(h ⟨x0,x1,x2,x3,x4,x5,x6,x7,x8,x9,x10,x11,x12⟩).mpr g
theorem NC {a0 a1 a2 a3 a4 a5 a6 a7 a8 a9 iW kG mA oN p q:Prop} (x0:a0) (x1:a1) (x2:a2) (x3:a3) (x4:a4) (x5:a5) (x6:a6) (x7:a7) (x8:a8) (x9:a9) (x10:iW) (x11:kG) (x12:mA) (x13:oN) (g:q) (h:a0/\a1/\a2/\a3/\a4/\a5/\a6/\a7/\a8/\a9/\iW/\kG/\mA/\oN->p=q:=by exact GW):p:=(h ⟨x0,x1,x2,x3,x4,x5,x6,x7,x8,x9,x10,x11,x12,x13⟩).mpr g
theorem JG {a0 a1 a2 a3 a4 a5 a6 a7 a8 a9 iW kG mA oN rG p q:Prop} (x0:a0) (x1:a1) (x2:a2) (x3:a3) (x4:a4) (x5:a5) (x6:a6) (x7:a7) (x8:a8) (x9:a9) (x10:iW) (x11:kG) (x12:mA) (x13:oN) (x14:rG) (g:q) (h:a0/\a1/\a2/\a3/\a4/\a5/\a6/\a7/\a8/\a9/\iW/\kG/\mA/\oN/\rG->p=q:=by exact GW):p:=(h ⟨x0,x1,x2,x3,x4,x5,x6,x7,x8,x9,x10,x11,x12,x13,x14⟩).mpr g
theorem ND {a0 a1 a2 a3 a4 a5 a6 a7 a8 a9 iW kG mA oN rG wC p q:Prop} (x0:a0) (x1:a1) (x2:a2) (x3:a3) (x4:a4) (x5:a5) (x6:a6) (x7:a7) (x8:a8) (x9:a9) (x10:iW) (x11:kG) (x12:mA) (x13:oN) (x14:rG) (x15:wC) (g:q) (h:a0/\a1/\a2/\a3/\a4/\a5/\a6/\a7/\a8/\a9/\iW/\kG/\mA/\oN/\rG/\wC->p=q:=by exact GW):p:=(h ⟨x0,x1,x2,x3,x4,x5,x6,x7,x8,x9,x10,x11,x12,x13,x14,x15⟩).mpr g
theorem DN {a0 a1 a2 a3 a4 a5 a6 a7 a8 a9 iW kG mA oN rG wC BI p q:Prop} (x0:a0) (x1:a1) (x2:a2) (x3:a3) (x4:a4) (x5:a5) (x6:a6) (x7:a7) (x8:a8) (x9:a9) (x10:iW) (x11:kG) (x12:mA) (x13:oN) (x14:rG) (x15:wC) (x16:BI) (g:q) (h:a0/\a1/\a2/\a3/\a4/\a5/\a6/\a7/\a8/\a9/\iW/\kG/\mA/\oN/\rG/\wC/\BI->p=q:=by exact GW):p:=(h ⟨x0,x1,x2,x3,x4,x5,x6,x7,x8,x9,x10,x11,x12,x13,x14,x15,x16⟩).mpr g
theorem NE {a0 a1 a2 a3 a4 a5 a6 a7 a8 a9 iW kG mA oN rG wC BI LH p q:Prop} (x0:a0) (x1:a1) (x2:a2) (x3:a3) (x4:a4) (x5:a5) (x6:a6) (x7:a7) (x8:a8) (x9:a9) (x10:iW) (x11:kG) (x12:mA) (x13:oN) (x14:rG) (x15:wC) (x16:BI) (x17:LH) (g:q) (h:a0/\a1/\a2/\a3/\a4/\a5/\a6/\a7/\a8/\a9/\iW/\kG/\mA/\oN/\rG/\wC/\BI/\LH->p=q:=by exact GW):p:=(h ⟨x0,x1,x2,x3,x4,x5,x6,x7,x8,x9,x10,x11,x12,x13,x14,x15,x16,x17⟩).mpr g
theorem aKe {a0 a1 a2 a3 a4 a5 a6 a7 a8 a9 iW kG mA oN rG wC BI LH a18 p q:Prop} (x0:a0) (x1:a1) (x2:a2) (x3:a3) (x4:a4) (x5:a5) (x6:a6) (x7:a7) (x8:a8) (x9:a9) (x10:iW) (x11:kG) (x12:mA) (x13:oN) (x14:rG) (x15:wC) (x16:BI) (x17:LH) (x18:a18) (g:q) (h:a0/\a1/\a2/\a3/\a4/\a5/\a6/\a7/\a8/\a9/\iW/\kG/\mA/\oN/\rG/\wC/\BI/\LH/\a18->p=q:=by exact GW):p:=(h ⟨x0,x1,x2,x3,x4,x5,x6,x7,x8,x9,x10,x11,x12,x13,x14,x15,x16,x17,x18⟩).mpr g
theorem aKf {a0 a1 a2 a3 a4 a5 a6 a7 a8 a9 iW kG mA oN rG wC BI LH a18 a19 p q:Prop} (x0:a0) (x1:a1) (x2:a2) (x3:a3) (x4:a4) (x5:a5) (x6:a6) (x7:a7) (x8:a8) (x9:a9) (x10:iW) (x11:kG) (x12:mA) (x13:oN) (x14:rG) (x15:wC) (x16:BI) (x17:LH) (x18:a18) (x19:a19) (g:q) (h:a0/\a1/\a2/\a3/\a4/\a5/\a6/\a7/\a8/\a9/\iW/\kG/\mA/\oN/\rG/\wC/\BI/\LH/\a18/\a19->p=q:=by exact GW):p:=(h ⟨x0,x1,x2,x3,x4,x5,x6,x7,x8,x9,x10,x11,x12,x13,x14,x15,x16,x17,x18,x19⟩).mpr g
theorem tN {a0 p:Prop} (x0:a0) (h:a0->p:=by exact GX):p:=h x0
theorem az2 {a0 a1 p:Prop} (x0:a0) (x1:a1) (h:a0/\a1->p:=by exact GX):p:=h ⟨x0,x1⟩
theorem SJ {a0 a1 a2 p:Prop} (x0:a0) (x1:a1) (x2:a2) (h:a0/\a1/\a2->p:=by exact GX):p:=h ⟨x0,x1,x2⟩
theorem az4 {a0 a1 a2 a3 p:Prop} (x0:a0) (x1:a1) (x2:a2) (x3:a3) (h:a0/\a1/\a2/\a3->p:=by exact GX):p:=h ⟨x0,x1,x2,x3⟩
theorem DO {a0 a1 a2 a3 a4 p:Prop} (x0:a0) (x1:a1) (x2:a2) (x3:a3) (x4:a4) (h:a0/\a1/\a2/\a3/\a4->p:=by exact GX):p:=h ⟨x0,x1,x2,x3,x4⟩
theorem SK {a0 a1 a2 a3 a4 a5 p:Prop} (x0:a0) (x1:a1) (x2:a2) (x3:a3) (x4:a4) (x5:a5) (h:a0/\a1/\a2/\a3/\a4/\a5->p:=by exact GX):p:=h ⟨x0,x1,x2,x3,x4,x5⟩
theorem PX {a0 a1 a2 a3 a4 a5 a6 p:Prop} (x0:a0) (x1:a1) (x2:a2) (x3:a3) (x4:a4) (x5:a5) (x6:a6) (h:a0/\a1/\a2/\a3/\a4/\a5/\a6->p:=by exact GX):p:=h ⟨x0,x1,x2,x3,x4,x5,x6⟩
theorem az8 {a0 a1 a2 a3 a4 a5 a6 a7 p:Prop} (x0:a0) (x1:a1) (x2:a2) (x3:a3) (x4:a4) (x5:a5) (x6:a6) (x7:a7) (h:a0/\a1/\a2/\a3/\a4/\a5/\a6/\a7->p:=by exact GX):p:=h ⟨x0,x1,x2,x3,x4,x5,x6,x7⟩
theorem az9 {a0 a1 a2 a3 a4 a5 a6 a7 a8 p:Prop} (x0:a0) (x1:a1) (x2:a2) (x3:a3) (x4:a4) (x5:a5) (x6:a6) (x7:a7) (x8:a8) (h:a0/\a1/\a2/\a3/\a4/\a5/\a6/\a7/\a8->p:=by exact GX):p:=h ⟨x0,x1,x2,x3,x4,x5,x6,x7,x8⟩
theorem JH {a0 a1 a2 a3 a4 a5 a6 a7 a8 a9 p:Prop} (x0:a0) (x1:a1) (x2:a2) (x3:a3) (x4:a4) (x5:a5) (x6:a6) (x7:a7) (x8:a8) (x9:a9) (h:a0/\a1/\a2/\a3/\a4/\a5/\a6/\a7/\a8/\a9->p:=by exact GX):p:=h ⟨x0,x1,x2,x3,x4,x5,x6,x7,x8,x9⟩
theorem NF {a0 a1 a2 a3 a4 a5 a6 a7 a8 a9 iW p:Prop} (x0:a0) (x1:a1) (x2:a2) (x3:a3) (x4:a4) (x5:a5) (x6:a6) (x7:a7) (x8:a8) (x9:a9) (x10:iW) (h:a0/\a1/\a2/\a3/\a4/\a5/\a6/\a7/\a8/\a9/\iW->p:=by exact GX):p:=h ⟨x0,x1,x2,x3,x4,x5,x6,x7,x8,x9,x10⟩
theorem vO {a0 a1 a2 a3 a4 a5 a6 a7 a8 a9 iW kG p:Prop} (x0:a0) (x1:a1) (x2:a2) (x3:a3) (x4:a4) (x5:a5) (x6:a6) (x7:a7) (x8:a8) (x9:a9) (x10:iW) (x11:kG) (h:a0/\a1/\a2/\a3/\a4/\a5/\a6/\a7/\a8/\a9/\iW/\kG->p:=by exact GX):p:=h ⟨x0,x1,x2,x3,x4,x5,x6,x7,x8,x9,x10,x11⟩
theorem aEr {a0 a1 a2 a3 a4 a5 a6 a7 a8 a9 iW kG mA p:Prop} (x0:a0) (x1:a1) (x2:a2) (x3:a3) (x4:a4) (x5:a5) (x6:a6) (x7:a7) (x8:a8) (x9:a9) (x10:iW) (x11:kG) (x12:mA) (h:a0/\a1/\a2/\a3/\a4/\a5/\a6/\a7/\a8/\a9/\iW/\kG/\mA->p:=by exact GX):p:=h ⟨x0,x1,x2,x3,x4,x5,x6,x7,x8,x9,x10,x11,x12⟩
theorem xK {a0 a1 a2 a3 a4 a5 a6 a7 a8 a9 iW kG mA oN p:Prop} (x0:a0) (x1:a1) (x2:a2) (x3:a3) (x4:a4) (x5:a5) (x6:a6) (x7:a7) (x8:a8) (x9:a9) (x10:iW) (x11:kG) (x12:mA) (x13:oN) (h:a0/\a1/\a2/\a3/\a4/\a5/\a6/\a7/\a8/\a9/\iW/\kG/\mA/\oN->p:=by exact GX):p:=h ⟨x0,x1,x2,x3,x4,x5,x6,x7,x8,x9,x10,x11,x12,x13⟩
theorem NG {a0 a1 a2 a3 a4 a5 a6 a7 a8 a9 iW kG mA oN rG p:Prop} (x0:a0) (x1:a1) (x2:a2) (x3:a3) (x4:a4) (x5:a5) (x6:a6) (x7:a7) (x8:a8) (x9:a9) (x10:iW) (x11:kG) (x12:mA) (x13:oN) (x14:rG) (h:a0/\a1/\a2/\a3/\a4/\a5/\a6/\a7/\a8/\a9/\iW/\kG/\mA/\oN/\rG->p:=by exact GX):p:=h ⟨x0,x1,x2,x3,x4,x5,x6,x7,x8,x9,x10,x11,x12,x13,x14⟩
theorem aKg {a0 a1 a2 a3 a4 a5 a6 a7 a8 a9 iW kG mA oN rG wC p:Prop} (x0:a0) (x1:a1) (x2:a2) (x3:a3) (x4:a4) (x5:a5) (x6:a6) (x7:a7) (x8:a8) (x9:a9) (x10:iW) (x11:kG) (x12:mA) (x13:oN) (x14:rG) (x15:wC) (h:a0/\a1/\a2/\a3/\a4/\a5/\a6/\a7/\a8/\a9/\iW/\kG/\mA/\oN/\rG/\wC->p:=by exact GX):p:=h ⟨x0,x1,x2,x3,x4,x5,x6,x7,x8,x9,x10,x11,x12,x13,x14,x15⟩
theorem aEs {a0 a1 a2 a3 a4 a5 a6 a7 a8 a9 iW kG mA oN rG wC BI p:Prop} (x0:a0) (x1:a1) (x2:a2) (x3:a3) (x4:a4) (x5:a5) (x6:a6) (x7:a7) (x8:a8) (x9:a9) (x10:iW) (x11:kG) (x12:mA) (x13:oN) (x14:rG) (x15:wC) (x16:BI) (h:a0/\a1/\a2/\a3/\a4/\a5/\a6/\a7/\a8/\a9/\iW/\kG/\mA/\oN/\rG/\wC/\BI->p:=by exact GX):p:=h ⟨x0,x1,x2,x3,x4,x5,x6,x7,x8,x9,x10,x11,x12,x13,x14,x15,x16⟩
theorem SL {a0 a1 a2 a3 a4 a5 a6 a7 a8 a9 iW kG mA oN rG wC BI LH p:Prop} (x0:a0) (x1:a1) (x2:a2) (x3:a3) (x4:a4) (x5:a5) (x6:a6) (x7:a7) (x8:a8) (x9:a9) (x10:iW) (x11:kG) (x12:mA) (x13:oN) (x14:rG) (x15:wC) (x16:BI) (x17:LH) (h:a0/\a1/\a2/\a3/\a4/\a5/\a6/\a7/\a8/\a9/\iW/\kG/\mA/\oN/\rG/\wC/\BI/\LH->p:=by exact GX):p:=h ⟨x0,x1,x2,x3,x4,x5,x6,x7,x8,x9,x10,x11,x12,x13,x14,x15,x16,x17⟩
theorem aKh {a0 a1 a2 a3 a4 a5 a6 a7 a8 a9 iW kG mA oN rG wC BI LH a18 p:Prop} (x0:a0) (x1:a1) (x2:a2) (x3:a3) (x4:a4) (x5:a5) (x6:a6) (x7:a7) (x8:a8) (x9:a9) (x10:iW) (x11:kG) (x12:mA) (x13:oN) (x14:rG) (x15:wC) (x16:BI) (x17:LH) (x18:a18) (h:a0/\a1/\a2/\a3/\a4/\a5/\a6/\a7/\a8/\a9/\iW/\kG/\mA/\oN/\rG/\wC/\BI/\LH/\a18->p:=by exact GX):p:=h ⟨x0,x1,x2,x3,x4,x5,x6,x7,x8,x9,x10,x11,x12,x13,x14,x15,x16,x17,x18⟩
theorem YQ {a0 a1 a2 a3 a4 a5 a6 a7 a8 a9 iW kG mA oN rG wC BI LH a18 a19 p:Prop} (x0:a0) (x1:a1) (x2:a2) (x3:a3) (x4:a4) (x5:a5) (x6:a6) (x7:a7) (x8:a8) (x9:a9) (x10:iW) (x11:kG) (x12:mA) (x13:oN) (x14:rG) (x15:wC) (x16:BI) (x17:LH) (x18:a18) (x19:a19) (h:a0/\a1/\a2/\a3/\a4/\a5/\a6/\a7/\a8/\a9/\iW/\kG/\mA/\oN/\rG/\wC/\BI/\LH/\a18/\a19->p:=by exact GX):p:=h ⟨x0,x1,x2,x3,x4,x5,x6,x7,x8,x9,x10,x11,x12,x13,x14,x15,x16,x17,x18,x19⟩
theorem aG {p:Prop} (h:p:=by (simp +decide only [↓ mU,vW,qC])):p:=h
theorem aP {a0 p:Prop} (x0:a0) (h:a0->p:=by (intro z;simp +decide only [↓ mU,vW,qC,z])):p:=h x0
theorem av2 {a0 a1 p:Prop} (x0:a0) (x1:a1) (h:a0/\a1->p:=by (intro z;simp +decide only [↓ mU,vW,qC,z])):p:=h ⟨x0,x1⟩
theorem lS {p:Prop} (h:p:=by (simp +decide only [↓ mU,GZ,qC,ne_eq])):p:=h
theorem rB {a0 p:Prop} (x0:a0) (h:a0->p:=by (intro z;simp +decide only [↓ mU,GZ,qC,ne_eq,z])):p:=h x0
theorem iY {a0 a1 p:Prop} (x0:a0) (x1:a1) (h:a0/\a1->p:=by (intro z;simp +decide only [↓ mU,GZ,qC,ne_eq,z])):p:=h ⟨x0,x1⟩
theorem uN {a0 a1 a2 p:Prop} (x0:a0) (x1:a1) (x2:a2) (h:a0/\a1/\a2->p:=by (intro z;simp +decide only [↓ mU,GZ,qC,ne_eq,z])):p:=h ⟨x0,x1,x2⟩
theorem eP {p:Prop} (h:p:=by (simp +decide only [↓ mU,vW,qC];rfl)):p:=h
theorem ar1 {a0 p:Prop} (x0:a0) (h:a0->p:=by (intro z;simp +decide only [↓ mU,vW,qC,z];rfl)):p:=h x0
theorem aE {p:Prop} (h:p:=by omega):p:=h
theorem Sl.lX {a:AV} {xs:List AV} (h:Sl a xs) (s:Sto) (d:Option ORes):BE (some 1) s a d=some (.val (.int .i64 (xs.length:Nat))):=h.len
theorem Sl.iX {a:AV} {xs:List AV} (h:Sl a xs) (P:Program) (t:TypeId) (v:AV):bR P t a v=uP (pC P t) xs v (eA P t a v):=h.idx
theorem Sl.sX {a:AV} {xs:List AV} (h:Sl a xs) (Y:Nat->Prop):eM Y a:=h.stab
end
end Go.Abs
namespace Go.Proofs.YtifmdaalhclhgaaGreat
open Go.Abs Go
noncomputable section
set_option maxRecDepth 10000
abbrev dE:=TSl cA
abbrev oD:=T2 cA cA
abbrev dN:=TSl oD
abbrev PY:=T3 cA dN dN
abbrev uO:=TSl PY
abbrev fX:=T4 cA cA dN uO
abbrev jY:=T2 cA cA
abbrev tO:=T5 (TSl fX) dE (TSl jY) dE cA
def TPatN:Nat->AV->Prop
 | 0,_=>False
 | d+1,a=>T4 cA cA rC (TSl (TPatN d)) a
def vP (a:AV):Prop:=∃ d,TPatN d a
abbrev eK:=T4 cA cA dE (TSl vP)
abbrev vQ:=T2 rC cA
abbrev qW:=TSl vQ
abbrev fY:=T4 (TSl eK) dE cA qW
theorem TSl.mono {A B:AV->Prop} (h:∀ a,A a->B a) {a:AV} (ha:TSl A a):TSl B a:=by
 obtain ⟨xs,h1,h2⟩:=ha;exact ⟨xs,h1,fun x hx=>h x (h2 x hx)⟩
theorem TPatN.succ:∀ (d:Nat) (a:AV),TPatN d a->TPatN (d+1) a
 | 0,_,h=>h.elim
 | d+1,_,⟨x,y,z,u,e,h1,h2,h3,h4⟩=>⟨x,y,z,u,e,h1,h2,h3,TSl.mono (TPatN.succ d) h4⟩
theorem TPatN.le {d d':Nat} (hd:d<=d') {a:AV} (h:TPatN d a):TPatN d' a:=by
 induction hd with
 | refl=>exact h
 | step _ ih=>exact TPatN.succ _ _ ih
theorem aL:Tu dE:=fZ (zJ tu_int)
theorem tk_val:Tk 2 oD:=tk2 tu_int tu_int
theorem aH:Tu dN:=fZ (gQ tk_val)
theorem tk_fr:Tk 3 PY:=tk3 tu_int aH aH
theorem bN:Tu uO:=fZ (gQ tk_fr)
theorem tk_ob:Tk 4 fX:=tk4 tu_int tu_int aH bN
theorem cD:Tu (TSl fX):=fZ (gQ tk_ob)
theorem tk_out:Tk 2 jY:=tk2 tu_int tu_int
theorem bJ:Tu (TSl jY):=fZ (gQ tk_out)
theorem tk_wd:Tk 5 tO:=tk5 cD aL bJ aL tu_int
theorem cI:∀ d,Tk 4 (TPatN d)
 | 0=>fun _ h=>h.elim
 | d+1=>tk4 tu_int tu_int tu_str (fZ (gQ (cI d)))
theorem tk_pat:Tk 4 vP:=fun a ⟨d,h⟩=>cI d a h
theorem fG:Tu (TSl vP):=fZ (gQ tk_pat)
theorem tk_node:Tk 4 eK:=tk4 tu_int tu_int aL fG
theorem dI:Tu (TSl eK):=fZ (gQ tk_node)
theorem tk_con:Tk 2 vQ:=tk2 tu_str tu_int
theorem dL:Tu qW:=fZ (gQ tk_con)
theorem dM:Tk 4 fY:=tk4 dI aL tu_int dL
def inR (n l h:Int):Bool:=decide (l<=n)&&decide (n<=h)
def oZ (n:Int):Bool:=inR n (-1000000000) 1000000000
def oE (nf no:Int) (v:AV):Bool:=
 if (v.fld 0).num=1 then oZ (v.fld 1).num else if (v.fld 0).num=2 then inR (v.fld 1).num 0 1 else if (v.fld 0).num=3 then decide ((v.fld 1).num=0)
 else if (v.fld 0).num=4 then inR (v.fld 1).num 0 (nf-1) else if (v.fld 0).num=5 then inR (v.fld 1).num 0 (no-1) else false
def fA (nf no:Int) (most:Int) (l:List AV):Bool:=decide ((l.length:Int)<=most)&&l.all (oE nf no)
def eL (n:AV):Int:=
 if (n.fld 0).num∈[6,9,10,11,12,13,18,22] then 2 else if (n.fld 0).num=14 then (n.fld 2).els.length
 else if (n.fld 0).num∈[7,8,16,17,15,19,20,23,24,26] then 1 else 0
def eF (ns:List AV) (n:Int):AV:=ns.getD n.toNat .top
def frR (ns:List AV) (nf no:Int) (f:AV):Bool:=
 inR (f.fld 0).num 0 ((ns.length:Int)-1)&&fA nf no 30 (f.fld 1).els&&fA nf no (eL (eF ns (f.fld 0).num)) (f.fld 2).els
def pA (ns:List AV) (nf no:Int) (l:List AV):Bool:=decide (l.length<=40)&&l.all (frR ns nf no)
def kS (ns:List AV) (f:AV):Bool:=decide (((f.fld 2).els.length:Int)<eL (eF ns (f.fld 0).num))
def iM (os:List AV) (k:Int):Bool:=inR k 0 ((os.length:Int)-1)&&decide (((os.getD k.toNat .top).fld 0).num=6)
def dH (os:List AV):Nat:=(os.filter fun o=>decide ((o.fld 0).num=6)).length
def zI (o:AV):Bool:=inR (o.fld 0).num 0 3&&oZ (o.fld 1).num
end
end Go.Proofs.YtifmdaalhclhgaaGreat
/-
 Whether something is so of all elements of a list: the functions that take it as a function.
-/
namespace Go.Abs
noncomputable section
theorem aEu {P:Program} {O:Orc} {H:dG} {c:Code} {nt:Nat} {fn:FuncId} {t0:Tr AV} {s:Sto} {Q:Ex->Env->Prop} (I:Nat->Tr AV->Prop) (m:Nat->Nat) (h0:I 0 t0)
 (hs:∀ i t,I i t->Wk P O H c ⟨nt,none,fn,t,[],s,.no⟩ (EA (fun i e=>∃ t,e=⟨nt,none,fn,t,[],s,.no⟩/\I i t) m i Q)):Wk P O H (.loop c) ⟨nt,none,fn,t0,[],s,.no⟩ Q:=
 aQ (fun i e=>∃ t,e=⟨nt,none,fn,t,[],s,.no⟩/\I i t) m 0 ⟨_,rfl,h0⟩ fun i e ⟨t,he,h⟩=>by subst he;exact hs i t h
end
end Go.Abs
namespace Go.Proofs.YtifmdaalhclhgaaGreat
open Go.Abs Go Go.Abs.TryzF
noncomputable section
set_option maxRecDepth 10000
def NH (F:FuncId) (T:AV->Prop):Prop:=∀ {g:FuncId} {first cap:List AV} {D:AV->Prop},(∀ x,D x->T x)->∀ (p:AV->Bool),UnderE 0 (.func (.func g) first cap)->(∀ x,D x->Abs.Returns Tryz.prog g (first++[x]++cap) (.bool (p x)))->∀ {a:AV},TSl D a->Abs.Returns Tryz.prog F [a,.func (.func g) first cap] (.int .i64 (sH p a.els 0))
def NI (F:FuncId) (T:AV->Prop):Prop:=∀ {g:FuncId} {first cap:List AV} {D:AV->Prop},(∀ x,D x->T x)->∀ (p:AV->Bool),UnderE 0 (.func (.func g) first cap)->(∀ x,D x->Abs.Returns Tryz.prog g (first++[x]++cap) (.bool (p x)))->∀ {a:AV},TSl D a->Abs.Returns Tryz.prog F [a,.func (.func g) first cap] (.bool (a.els.any p))
def JI (F:FuncId) (T:AV->Prop):Prop:=∀ {g:FuncId} {first cap:List AV} {D:AV->Prop},(∀ x,D x->T x)->∀ (p:AV->Bool),UnderE 0 (.func (.func g) first cap)->(∀ x,D x->Abs.Returns Tryz.prog g (first++[x]++cap) (.bool (p x)))->∀ {a:AV},TSl D a->Abs.Returns Tryz.prog F [a,.func (.func g) first cap] (.bool (a.els.all p))
def JJ (F:FuncId) (T:AV->Prop):Prop:=∀ {g:FuncId} {first cap:List AV} {D:AV->Prop},(∀ x,D x->T x)->∀ (p:AV->Bool),UnderE 0 (.func (.func g) first cap)->(∀ x,D x->Abs.Returns Tryz.prog g (first++[x]++cap) (.bool (p x)))->∀ x,D x->Abs.Returns Tryz.prog F ([]++[x]++[.pf (.func (.func g) first cap)]) (.bool (!p x))
theorem AJ {A B C D p:Prop} (x:A) (y:B) (z:C) (w:D) (h:A->B->C->D->p:=by
 rename_i g first cap D
 intro f1 f2 f3 tk hD p hu h a ha;obtain ⟨xs,hs,hx⟩:=ha;have hl:=hs.2;refine aF (L:=[JO g first cap D fun x=>.bool (p x)]) (elist_cons (tQ h) aD) aN (by kernel_rfl) f1 f2 f3 rfl rfl (aA (DZ hs fun x hm=>(tk x (hD x (hx x hm))).1).und (aA hu.und aC)) aT ?_;rw [hs.els];simp +contextual +decide (maxSteps:=1000000) only [↓ wP,wQ,tf,Nat.reduceAdd,wS,reduceCtorEq,hs.len];refine aEu (fun i t=>t.val 0=a/\t.val 1=.func (.func g) first cap/\t.val 7=.int .i64 (xs.length:Nat)/\t.val 8=.int .i64 (i:Nat)/\i<=xs.length/\sH p xs 0=sH p (xs.drop i) i) (fun i=>xs.length-i) ⟨by simp +decide only [↓ mU,vW,qC],by simp +decide only [↓ mU,vW,qC],by simp +decide only [↓ mU,vW,qC],by simp +decide only [↓ mU,vW,qC];rfl,Nat.zero_le _,rfl⟩ ?_;rintro i t ⟨t0,t1,t7,t8,hi,hq⟩
 rcases Nat.lt_or_ge i xs.length with hlt | hge
 ·obtain ⟨x,hDx,hm,hg,hd,hix,hw,hc⟩:=aZ (fun x h=>tk.len (hD x h)) hx hl hlt
  rw [hd,sH]at hq
  have hpf:=fun {d:Option AV}=>tk.pf (hD x hDx) (d:=d)
  cases hp:p x with
  | true=>
    rw [hp,if_pos rfl]at hq;simp +contextual +decide (maxSteps:=1000000) only [↓ wP,wQ,tf,Nat.reduceAdd,wS,reduceCtorEq,t0,t1,t7,t8,hs.idx,hix,hc,hpf,jZ hDx,hp,hq]
  | false=>
    rw [hp,if_neg (by decide)]at hq;simp +contextual +decide (maxSteps:=1000000) only [↓ wP,wQ,tf,Nat.reduceAdd,wS,reduceCtorEq,t0,t1,t7,t8,hs.idx,hix,hc,hpf,jZ hDx,hp,hw];exact ⟨i+1,by show _-_<_-_;omega,_,rfl,by simp +decide only [↓ mU,vW,qC,t0],by simp +decide only [↓ mU,vW,qC,t1],by simp +decide only [↓ mU,vW,qC,t7],by simp +decide only [↓ mU,vW,qC],hlt,hq⟩
 ·obtain rfl:i=xs.length:=Nat.le_antisymm hi hge
  rw [List.drop_length,sH]at hq
  simp +contextual +decide (maxSteps:=1000000) only [↓ wP,wQ,tf,Nat.reduceAdd,wS,reduceCtorEq,t0,t1,t7,t8,aW,hq]):p:=h x y z w
theorem AK {A B C D E p:Prop} (x:A) (y:B) (z:C) (w:D) (v:E) (h:A->B->C->D->E->p:=by
 rename_i g first cap D
 intro hI f1 f2 f3 tk hD p hu h a ha;have hx:=hI hD p hu h ha;obtain ⟨xs,hs,hm⟩:=ha;refine aF (elist_cons (jF hx) aD) aN (by kernel_rfl) f1 f2 f3 rfl rfl (aA (DZ hs fun x h=>(tk x (hD x (hm x h))).1).und (aA hu.und aC)) aJ ?_;simp +contextual +decide (maxSteps:=1000000) only [↓ wP,wQ,tf,Nat.reduceAdd,wS,reduceCtorEq,gJ]
 rw [DQ]):p:=h x y z w v
theorem DP {A B C D p:Prop} (x:A) (y:B) (z:C) (w:D) (h:A->B->C->D->p:=by
 rename_i g first cap D
 intro f1 f2 f3 tk hD p hu h x hDx;refine aF (elist_cons (tQ h) aD) aN (by kernel_rfl) f1 f2 f3 rfl rfl (aA (tk x (hD x hDx)).1.und (aA (kA hu).und aC)) aJ ?_
 have he:=fun {s:Sto}=>jZ (g:=g) (first:=first) (cap:=cap) (D:=D) (p:=fun x=>.bool (p x)) (L:=[]) (s:=s) hDx
 obtain ⟨_,cs,rfl,hcl,hca⟩:=tk x (hD x hDx);have hz:=Nat.le_of_eq ((Nat.zero_add _).trans hcl.symm)
 simp +contextual +decide (maxSteps:=1000000) only [↓ wP,wQ,tf,Nat.reduceAdd,wS,reduceCtorEq,he,hcl,hca,bB hcl,hz]):p:=h x y z w
theorem aEv {A B C p:Prop} (x:A) (y:B) (z:C) (h:A->B->C->p:=by
 rename_i g first cap D
 intro f1 f2 f3 hD p hu h x hDx;refine aF (elist_cons (tQ h) aD) aN (by kernel_rfl) f1 f2 f3 rfl rfl (aA (tu_int x (hD x hDx)).1.und (aA (kA hu).und aC)) aJ ?_
 have he:=fun {s:Sto}=>jZ (g:=g) (first:=first) (cap:=cap) (D:=D) (p:=fun x=>.bool (p x)) (L:=[]) (s:=s) hDx
 have hca:=(tu_int x (hD x hDx)).2
 simp +contextual +decide (maxSteps:=1000000) only [↓ wP,wQ,tf,Nat.reduceAdd,wS,reduceCtorEq,he,hca]):p:=h x y z
section
variable {F C g:FuncId} {first cap:List AV} {a:AV} {r:Bool}
theorem aSw (hua:UnderE 0 a) (hu:UnderE 0 (.func (.func g) first cap)) (hc:Abs.Returns Tryz.prog C [a,.func (.func F) [] [.pf (.func (.func g) first cap)]] (.bool r)):∀ args s,onL (.func (.func F) [] [.ptr 0 0 0]) (fun b=>b=a) (fun s=>s.get 0=some (aY 0 [.func (.func g) first cap])) args s->bV Tryz.prog C args s (.ret (.bool r) none):=fun args s hs=>by
 match args,hs with
 | [b,f],⟨h1,h2,h3⟩=>
   subst h1;subst h2;exact tP hc mS ⟨.und _ hua.und,lT h3 rfl (by intro x hx;simp at hx;subst hx;exact hu.und),trivial⟩
theorem aSx {s:Sto} (hs:s.get 0=some (aY 0 [.func (.func g) first cap])):bK [entB C (onL (.func (.func F) [] [.ptr 0 0 0]) (fun b=>b=a) fun s=>s.get 0=some (aY 0 [.func (.func g) first cap])) fun _=>.bool r] C [a,.func (.func F) [] [.ptr 0 0 0]] s=some (.ret (.bool r) none):=eQ ⟨rfl,rfl,hs⟩
end
theorem xL {A B C D E F p:Prop} (x:A) (y:B) (z:C) (w:D) (v:E) (u:F) (h:A->B->C->D->E->F->p:=by
 rename_i g first cap D
 intro hC hN f1 f2 f3 tk hD p hu h a ha;have hc:=hC (first:=[]) (cap:=[.pf (.func (.func g) first cap)]) hD (fun x=>!p x) (fC (fun _ h=>nomatch h) (by intro x hx;simp at hx;subst hx;exact kA hu)) (hN hD p hu h) ha;obtain ⟨xs,hs,hm⟩:=ha
 have hua:=DZ hs fun x h=>(tk x (hD x (hm x h))).1
 refine aF (L:=[entB _ _ fun _=>.bool (a.els.any fun x=>!p x)]) (elist_cons (entB_ok (aSw hua hu hc)) aD) aN (by kernel_rfl) f1 f2 f3 rfl rfl (aA hua.und (aA hu.und aC)) aJ ?_;simp +contextual +decide (maxSteps:=1000000) only [↓ wP,wQ,tf,Nat.reduceAdd,wS,reduceCtorEq,aSx,hs.cell]
 rw [<-List.not_all_eq_any_not,Bool.not_not]):p:=h x y z w v u
theorem aEw:NH 331 oD:=AJ Tryz.func331 Tryz.ntmps331 Tryz.results331 @tk_val
theorem NJ:NI 278 oD:=AK @aEw Tryz.func278 Tryz.ntmps278 Tryz.results278 @tk_val
theorem aKi:NH 351 PY:=AJ Tryz.func351 Tryz.ntmps351 Tryz.results351 @tk_fr
theorem SM:NI 332 PY:=AK @aKi Tryz.func332 Tryz.ntmps332 Tryz.results332 @tk_fr
theorem aKj:NH 277 fX:=AJ Tryz.func277 Tryz.ntmps277 Tryz.results277 @tk_ob
theorem SN:NI 229 fX:=AK @aKj Tryz.func229 Tryz.ntmps229 Tryz.results229 @tk_ob
theorem aEx:NH 285 jY:=AJ Tryz.func285 Tryz.ntmps285 Tryz.results285 @tk_out
theorem NK:NI 238 jY:=AK @aEx Tryz.func238 Tryz.ntmps238 Tryz.results238 @tk_out
theorem aEy:NH 330 cA:=AJ Tryz.func330 Tryz.ntmps330 Tryz.results330 @tu_int
theorem AL:NI 275 cA:=AK @aEy Tryz.func275 Tryz.ntmps275 Tryz.results275 @tu_int
theorem aEz:NH 324 vQ:=AJ Tryz.func324 Tryz.ntmps324 Tryz.results324 @tk_con
theorem NL:NI 264 vQ:=AK @aEz Tryz.func264 Tryz.ntmps264 Tryz.results264 @tk_con
theorem YR:NH 326 eK:=AJ Tryz.func326 Tryz.ntmps326 Tryz.results326 @tk_node
theorem JK:NI 267 eK:=AK @YR Tryz.func267 Tryz.ntmps267 Tryz.results267 @tk_node
theorem aFa:NH 350 vP:=AJ Tryz.func350 Tryz.ntmps350 Tryz.results350 @tk_pat
theorem NM:NI 328 vP:=AK @aFa Tryz.func328 Tryz.ntmps328 Tryz.results328 @tk_pat
theorem aFb:JJ 265 vQ:=DP Tryz.func265 Tryz.ntmps265 Tryz.results265 @tk_con
theorem aKk:JI 220 vQ:=xL @NL @aFb Tryz.func220 Tryz.ntmps220 Tryz.results220 @tk_con
theorem YS:JJ 268 eK:=DP Tryz.func268 Tryz.ntmps268 Tryz.results268 @tk_node
theorem aFc:JI 225 eK:=xL @JK @YS Tryz.func225 Tryz.ntmps225 Tryz.results225 @tk_node
theorem aFd:JJ 329 vP:=DP Tryz.func329 Tryz.ntmps329 Tryz.results329 @tk_pat
theorem VW:JI 274 vP:=xL @NM @aFd Tryz.func274 Tryz.ntmps274 Tryz.results274 @tk_pat
theorem aFe:JJ 276 cA:=aEv Tryz.func276 Tryz.ntmps276 Tryz.results276
theorem aKl:JI 227 cA:=xL @AL @aFe Tryz.func227 Tryz.ntmps227 Tryz.results227 @tu_int
theorem aFf:JJ 279 oD:=DP Tryz.func279 Tryz.ntmps279 Tryz.results279 @tk_val
theorem aKm:JI 231 oD:=xL @NJ @aFf Tryz.func231 Tryz.ntmps231 Tryz.results231 @tk_val
theorem aKn:JJ 333 PY:=DP Tryz.func333 Tryz.ntmps333 Tryz.results333 @tk_fr
theorem aFg:JI 280 PY:=xL @SM @aKn Tryz.func280 Tryz.ntmps280 Tryz.results280 @tk_fr
theorem aKo:JJ 230 fX:=DP Tryz.func230 Tryz.ntmps230 Tryz.results230 @tk_ob
theorem aPk:JI 177 fX:=xL @SN @aKo Tryz.func177 Tryz.ntmps177 Tryz.results177 @tk_ob
theorem aFh:JJ 239 jY:=DP Tryz.func239 Tryz.ntmps239 Tryz.results239 @tk_out
theorem aKp:JI 180 jY:=xL @NK @aFh Tryz.func180 Tryz.ntmps180 Tryz.results180 @tk_out
theorem aFi:JJ 283 cA:=aEv Tryz.func283 Tryz.ntmps283 Tryz.results283
theorem aKq:JI 235 cA:=xL @AL @aFi Tryz.func235 Tryz.ntmps235 Tryz.results235 @tu_int
end
end Go.Proofs.YtifmdaalhclhgaaGreat
