/-
  Programs, worlds and states, in plain words, as they lie in the machine.
-/
import Derived.Test.YtdipddlhenoglaaGreatEy
import Derived.Test.YtdipddlhenoglaaGreatEp
import Derived.Test.YtdipddlhenoglaaGreatEt
import Derived.Test.YtdipddlhenoglaaGreatTf
set_option linter.unusedVariables false
set_option linter.unusedSimpArgs false
namespace Go.Abs
noncomputable section
theorem wS:type_of% (And.intro @ne_eq.{1} (And.intro @if_true.{1} (And.intro @if_true.{0} (And.intro @if_false.{1} (And.intro @if_false.{0} (And.intro @aUi (And.intro @wgu (And.intro @yO (And.intro @yP (And.intro @Bool.false_and (And.intro @Bool.true_and (And.intro @Bool.and_false (And.intro @Bool.and_true (And.intro @decide_true (@decide_false))))))))))))))):=And.intro @ne_eq.{1} (And.intro @if_true.{1} (And.intro @if_true.{0} (And.intro @if_false.{1} (And.intro @if_false.{0} (And.intro @aUi (And.intro @wgu (And.intro @yO (And.intro @yP (And.intro @Bool.false_and (And.intro @Bool.true_and (And.intro @Bool.and_false (And.intro @Bool.and_true (And.intro @decide_true (@decide_false))))))))))))))
theorem wT:type_of% (And.intro @if_true.{1} (And.intro @if_true.{0} (And.intro @if_false.{1} (And.intro @if_false.{0} (And.intro @decide_true (And.intro @decide_false (And.intro @Bool.false_and (And.intro @Bool.true_and (And.intro @Bool.and_false (And.intro @Bool.and_true (And.intro @Bool.not_true (And.intro @Bool.not_false (And.intro @Bool.or_false (And.intro @Bool.false_or (And.intro @Bool.true_or (And.intro @Bool.or_true (And.intro @List.getD_cons_zero.{0} (@List.getD_cons_succ.{0})))))))))))))))))):=And.intro @if_true.{1} (And.intro @if_true.{0} (And.intro @if_false.{1} (And.intro @if_false.{0} (And.intro @decide_true (And.intro @decide_false (And.intro @Bool.false_and (And.intro @Bool.true_and (And.intro @Bool.and_false (And.intro @Bool.and_true (And.intro @Bool.not_true (And.intro @Bool.not_false (And.intro @Bool.or_false (And.intro @Bool.false_or (And.intro @Bool.true_or (And.intro @Bool.or_true (And.intro @List.getD_cons_zero.{0} (@List.getD_cons_succ.{0})))))))))))))))))
end
end Go.Abs
namespace Go.Abs
section
open Go.Abs.TryzF
theorem II {a p q:Prop} (h:a->p=q:=by (intro z;conv=>(lhs;simp +contextual +decide (maxSteps:=1000000) only [↓ wP,wQ,tf,Nat.reduceAdd,Nat.reduceMul,wS,reduceCtorEq,z]))):a->p=q:=h
theorem IJ {a p:Prop} (h:a->p:=by (intro z;simp +contextual +decide (maxSteps:=1000000) only [↓ wP,wQ,tf,Nat.reduceAdd,Nat.reduceMul,wS,reduceCtorEq,z])):a->p:=h
theorem AC {p q:Prop} (g:q) (h:p=q:=by conv=>(lhs;simp +contextual +decide (maxSteps:=1000000) only [↓ wP,wQ,tf,Nat.reduceAdd,Nat.reduceMul,wS,reduceCtorEq])):p:=h.mpr g
theorem az0 {p:Prop} (h:p:=by simp +contextual +decide (maxSteps:=1000000) only [↓ wP,wQ,tf,Nat.reduceAdd,Nat.reduceMul,wS,reduceCtorEq]):p:=h
theorem AE {a0 p q:Prop} (b:a0) (g:q) (h:a0->p=q:=by exact II):p:=(h b).mpr g
theorem NC {a0 a1 p q:Prop} (b:a0) (c:a1) (g:q) (h:a0/\a1->p=q:=by exact II):p:=(h ⟨b,c⟩).mpr g
theorem CL {a0 a1 a2 p q:Prop} (b:a0) (c:a1) (d:a2) (g:q) (h:a0/\a1/\a2->p=q:=by exact II):p:=(h ⟨b,c,d⟩).mpr g
theorem IK {a0 a1 a2 a3 p q:Prop} (b:a0) (c:a1) (d:a2) (e:a3) (g:q) (h:a0/\a1/\a2/\a3->p=q:=by exact II):p:=(h ⟨b,c,d,e⟩).mpr g
theorem LB {a0 a1 a2 a3 a4 p q:Prop} (b:a0) (c:a1) (d:a2) (e:a3) (f:a4) (g:q) (h:a0/\a1/\a2/\a3/\a4->p=q:=by exact II):p:=(h ⟨b,c,d,e,f⟩).mpr g
theorem XK {a0 a1 a2 a3 a4 a5 p q:Prop} (b:a0) (c:a1) (d:a2) (e:a3) (f:a4) (k:a5) (g:q) (h:a0/\a1/\a2/\a3/\a4/\a5->p=q:=by exact II):p:=(h ⟨b,c,d,e,f,k⟩).mpr g
theorem ap7 {a0 a1 a2 a3 a4 a5 a6 p q:Prop} (b:a0) (c:a1) (d:a2) (e:a3) (f:a4) (k:a5) (l:a6) (g:q) (h:a0/\a1/\a2/\a3/\a4/\a5/\a6->p=q:=by exact II):p:=(h ⟨b,c,d,e,f,k,l⟩).mpr g
theorem XL {a0 a1 a2 a3 a4 a5 a6 a7 p q:Prop} (b:a0) (c:a1) (d:a2) (e:a3) (f:a4) (k:a5) (l:a6) (m:a7) (g:q) (h:a0/\a1/\a2/\a3/\a4/\a5/\a6/\a7->p=q:=by exact II):p:=(h ⟨b,c,d,e,f,k,l,m⟩).mpr g
theorem ap9 {a0 a1 a2 a3 a4 a5 a6 a7 a8 p q:Prop} (b:a0) (c:a1) (d:a2) (e:a3) (f:a4) (k:a5) (l:a6) (m:a7) (o:a8) (g:q) (h:a0/\a1/\a2/\a3/\a4/\a5/\a6/\a7/\a8->p=q:=by exact II):p:=(h ⟨b,c,d,e,f,k,l,m,o⟩).mpr g
theorem wW {a0 a1 a2 a3 a4 a5 a6 a7 a8 a9 p q:Prop} (b:a0) (c:a1) (d:a2) (e:a3) (f:a4) (k:a5) (l:a6) (m:a7) (o:a8) (u:a9) (g:q) (h:a0/\a1/\a2/\a3/\a4/\a5/\a6/\a7/\a8/\a9->p=q:=by exact II):p:=(h ⟨b,c,d,e,f,k,l,m,o,u⟩).mpr g
theorem AF {a0 a1 a2 a3 a4 a5 a6 a7 a8 a9 jE p q:Prop} (c:a0) (d:a1) (e:a2) (f:a3) (k:a4) (l:a5) (m:a6) (o:a7) (u:a8) (v:a9) (b:jE) (g:q) (h:a0/\a1/\a2/\a3/\a4/\a5/\a6/\a7/\a8/\a9/\jE->p=q:=by exact II):p:=(h ⟨c,d,e,f,k,l,m,o,u,v,b⟩).mpr g
theorem BW {a0 a1 a2 a3 a4 a5 a6 a7 a8 a9 jE kD p q:Prop} (d:a0) (e:a1) (f:a2) (k:a3) (l:a4) (m:a5) (o:a6) (u:a7) (v:a8) (w:a9) (b:jE) (c:kD) (g:q) (h:a0/\a1/\a2/\a3/\a4/\a5/\a6/\a7/\a8/\a9/\jE/\kD->p=q:=by exact II):p:=(h ⟨d,e,f,k,l,m,o,u,v,w,b,c⟩).mpr g
theorem yA {a0 a1 a2 a3 a4 a5 a6 a7 a8 a9 jE kD lT p q:Prop} (e:a0) (f:a1) (k:a2) (l:a3) (m:a4) (o:a5) (u:a6) (v:a7) (w:a8) (y:a9) (b:jE) (c:kD) (d:lT) (g:q) (h:a0/\a1/\a2/\a3/\a4/\a5/\a6/\a7/\a8/\a9/\jE/\kD/\lT->p=q:=by exact II):p:=(h ⟨e,f,k,l,m,o,u,v,w,y,b,c,d⟩).mpr g
theorem LC {a0 a1 a2 a3 a4 a5 a6 a7 a8 a9 jE kD lT oH p q:Prop} (f:a0) (k:a1) (l:a2) (m:a3) (o:a4) (u:a5) (v:a6) (w:a7) (y:a8) (A:a9) (b:jE) (c:kD) (d:lT) (e:oH) (g:q) (h:a0/\a1/\a2/\a3/\a4/\a5/\a6/\a7/\a8/\a9/\jE/\kD/\lT/\oH->p=q:=by exact II):p:=(h ⟨f,k,l,m,o,u,v,w,y,A,b,c,d,e⟩).mpr g
theorem GQ {a0 a1 a2 a3 a4 a5 a6 a7 a8 a9 jE kD lT oH rY p q:Prop} (k:a0) (l:a1) (m:a2) (o:a3) (u:a4) (v:a5) (w:a6) (y:a7) (A:a8) (B:a9) (b:jE) (c:kD) (d:lT) (e:oH) (f:rY) (g:q) (h:a0/\a1/\a2/\a3/\a4/\a5/\a6/\a7/\a8/\a9/\jE/\kD/\lT/\oH/\rY->p=q:=by exact II):p:=(h ⟨k,l,m,o,u,v,w,y,A,B,b,c,d,e,f⟩).mpr g
theorem LD {a0 a1 a2 a3 a4 a5 a6 a7 a8 a9 jE kD lT oH rY wD p q:Prop} (l:a0) (m:a1) (o:a2) (u:a3) (v:a4) (w:a5) (y:a6) (A:a7) (B:a8) (D:a9) (b:jE) (c:kD) (d:lT) (e:oH) (f:rY) (k:wD) (g:q) (h:a0/\a1/\a2/\a3/\a4/\a5/\a6/\a7/\a8/\a9/\jE/\kD/\lT/\oH/\rY/\wD->p=q:=by exact II):p:=(h ⟨l,m,o,u,v,w,y,A,B,D,b,c,d,e,f,k⟩).mpr g
theorem aLx {a0 a1 a2 a3 a4 a5 a6 a7 a8 a9 jE kD lT oH rY wD BV p q:Prop} (m:a0) (o:a1) (u:a2) (v:a3) (w:a4) (y:a5) (A:a6) (B:a7) (D:a8) (E:a9) (b:jE) (c:kD) (d:lT) (e:oH) (f:rY) (k:wD) (l:BV) (g:q) (h:a0/\a1/\a2/\a3/\a4/\a5/\a6/\a7/\a8/\a9/\jE/\kD/\lT/\oH/\rY/\wD/\BV->p=q:=by exact II):p:=(h ⟨m,o,u,v,w,y,A,B,D,E,b,c,d,e,f,k,l⟩).mpr g
theorem EP {a0 a1 a2 a3 a4 a5 a6 a7 a8 a9 jE kD lT oH rY wD BV JD p q:Prop} (o:a0) (u:a1) (v:a2) (w:a3) (y:a4) (A:a5) (B:a6) (D:a7) (E:a8) (G:a9) (b:jE) (c:kD) (d:lT) (e:oH) (f:rY) (k:wD) (l:BV) (m:JD) (g:q) (h:a0/\a1/\a2/\a3/\a4/\a5/\a6/\a7/\a8/\a9/\jE/\kD/\lT/\oH/\rY/\wD/\BV/\JD->p=q:=by exact II):p:=(h ⟨o,u,v,w,y,A,B,D,E,G,b,c,d,e,f,k,l,m⟩).mpr g
theorem aGj {a0 a1 a2 a3 a4 a5 a6 a7 a8 a9 jE kD lT oH rY wD BV JD YU p q:Prop} (u:a0) (v:a1) (w:a2) (y:a3) (A:a4) (B:a5) (D:a6) (E:a7) (G:a8) (H:a9) (b:jE) (c:kD) (d:lT) (e:oH) (f:rY) (k:wD) (l:BV) (m:JD) (o:YU) (g:q) (h:a0/\a1/\a2/\a3/\a4/\a5/\a6/\a7/\a8/\a9/\jE/\kD/\lT/\oH/\rY/\wD/\BV/\JD/\YU->p=q:=by exact II):p:=(h ⟨u,v,w,y,A,B,D,E,G,H,b,c,d,e,f,k,l,m,o⟩).mpr g
theorem aGk {a0 a1 a2 a3 a4 a5 a6 a7 a8 a9 jE kD lT oH rY wD BV JD YU a19 p q:Prop} (v:a0) (w:a1) (y:a2) (A:a3) (B:a4) (D:a5) (E:a6) (G:a7) (H:a8) (I:a9) (b:jE) (c:kD) (d:lT) (e:oH) (f:rY) (k:wD) (l:BV) (m:JD) (o:YU) (u:a19) (g:q) (h:a0/\a1/\a2/\a3/\a4/\a5/\a6/\a7/\a8/\a9/\jE/\kD/\lT/\oH/\rY/\wD/\BV/\JD/\YU/\a19->p=q:=by exact II):p:=(h ⟨v,w,y,A,B,D,E,G,H,I,b,c,d,e,f,k,l,m,o,u⟩).mpr g
theorem uQ {a0 p:Prop} (b:a0) (h:a0->p:=by exact IJ):p:=h b
theorem TS {a0 a1 p:Prop} (b:a0) (c:a1) (h:a0/\a1->p:=by exact IJ):p:=h ⟨b,c⟩
theorem az3 {a0 a1 a2 p:Prop} (b:a0) (c:a1) (d:a2) (h:a0/\a1/\a2->p:=by exact IJ):p:=h ⟨b,c,d⟩
theorem az4 {a0 a1 a2 a3 p:Prop} (b:a0) (c:a1) (d:a2) (e:a3) (h:a0/\a1/\a2/\a3->p:=by exact IJ):p:=h ⟨b,c,d,e⟩
theorem ND {a0 a1 a2 a3 a4 p:Prop} (b:a0) (c:a1) (d:a2) (e:a3) (f:a4) (h:a0/\a1/\a2/\a3/\a4->p:=by exact IJ):p:=h ⟨b,c,d,e,f⟩
theorem RD {a0 a1 a2 a3 a4 a5 p:Prop} (b:a0) (c:a1) (d:a2) (e:a3) (f:a4) (k:a5) (h:a0/\a1/\a2/\a3/\a4/\a5->p:=by exact IJ):p:=h ⟨b,c,d,e,f,k⟩
theorem OQ {a0 a1 a2 a3 a4 a5 a6 p:Prop} (b:a0) (c:a1) (d:a2) (e:a3) (f:a4) (k:a5) (l:a6) (h:a0/\a1/\a2/\a3/\a4/\a5/\a6->p:=by exact IJ):p:=h ⟨b,c,d,e,f,k,l⟩
theorem az8 {a0 a1 a2 a3 a4 a5 a6 a7 p:Prop} (b:a0) (c:a1) (d:a2) (e:a3) (f:a4) (k:a5) (l:a6) (m:a7) (h:a0/\a1/\a2/\a3/\a4/\a5/\a6/\a7->p:=by exact IJ):p:=h ⟨b,c,d,e,f,k,l,m⟩
theorem az9 {a0 a1 a2 a3 a4 a5 a6 a7 a8 p:Prop} (b:a0) (c:a1) (d:a2) (e:a3) (f:a4) (k:a5) (l:a6) (m:a7) (o:a8) (h:a0/\a1/\a2/\a3/\a4/\a5/\a6/\a7/\a8->p:=by exact IJ):p:=h ⟨b,c,d,e,f,k,l,m,o⟩
theorem GR {a0 a1 a2 a3 a4 a5 a6 a7 a8 a9 p:Prop} (b:a0) (c:a1) (d:a2) (e:a3) (f:a4) (k:a5) (l:a6) (m:a7) (o:a8) (q:a9) (h:a0/\a1/\a2/\a3/\a4/\a5/\a6/\a7/\a8/\a9->p:=by exact IJ):p:=h ⟨b,c,d,e,f,k,l,m,o,q⟩
theorem LE {a0 a1 a2 a3 a4 a5 a6 a7 a8 a9 jE p:Prop} (c:a0) (d:a1) (e:a2) (f:a3) (k:a4) (l:a5) (m:a6) (o:a7) (q:a8) (u:a9) (b:jE) (h:a0/\a1/\a2/\a3/\a4/\a5/\a6/\a7/\a8/\a9/\jE->p:=by exact IJ):p:=h ⟨c,d,e,f,k,l,m,o,q,u,b⟩
theorem vN {a0 a1 a2 a3 a4 a5 a6 a7 a8 a9 jE kD p:Prop} (d:a0) (e:a1) (f:a2) (k:a3) (l:a4) (m:a5) (o:a6) (q:a7) (u:a8) (v:a9) (b:jE) (c:kD) (h:a0/\a1/\a2/\a3/\a4/\a5/\a6/\a7/\a8/\a9/\jE/\kD->p:=by exact IJ):p:=h ⟨d,e,f,k,l,m,o,q,u,v,b,c⟩
theorem aAq {a0 a1 a2 a3 a4 a5 a6 a7 a8 a9 jE kD lT p:Prop} (e:a0) (f:a1) (k:a2) (l:a3) (m:a4) (o:a5) (q:a6) (u:a7) (v:a8) (w:a9) (b:jE) (c:kD) (d:lT) (h:a0/\a1/\a2/\a3/\a4/\a5/\a6/\a7/\a8/\a9/\jE/\kD/\lT->p:=by exact IJ):p:=h ⟨e,f,k,l,m,o,q,u,v,w,b,c,d⟩
theorem GS {a0 a1 a2 a3 a4 a5 a6 a7 a8 a9 jE kD lT oH p:Prop} (f:a0) (k:a1) (l:a2) (m:a3) (o:a4) (q:a5) (u:a6) (v:a7) (w:a8) (y:a9) (b:jE) (c:kD) (d:lT) (e:oH) (h:a0/\a1/\a2/\a3/\a4/\a5/\a6/\a7/\a8/\a9/\jE/\kD/\lT/\oH->p:=by exact IJ):p:=h ⟨f,k,l,m,o,q,u,v,w,y,b,c,d,e⟩
theorem aAr {a0 a1 a2 a3 a4 a5 a6 a7 a8 a9 jE kD lT oH rY p:Prop} (k:a0) (l:a1) (m:a2) (o:a3) (q:a4) (u:a5) (v:a6) (w:a7) (y:a8) (A:a9) (b:jE) (c:kD) (d:lT) (e:oH) (f:rY) (h:a0/\a1/\a2/\a3/\a4/\a5/\a6/\a7/\a8/\a9/\jE/\kD/\lT/\oH/\rY->p:=by exact IJ):p:=h ⟨k,l,m,o,q,u,v,w,y,A,b,c,d,e,f⟩
theorem aQo {a0 a1 a2 a3 a4 a5 a6 a7 a8 a9 jE kD lT oH rY wD p:Prop} (l:a0) (m:a1) (o:a2) (q:a3) (u:a4) (v:a5) (w:a6) (y:a7) (A:a8) (B:a9) (b:jE) (c:kD) (d:lT) (e:oH) (f:rY) (k:wD) (h:a0/\a1/\a2/\a3/\a4/\a5/\a6/\a7/\a8/\a9/\jE/\kD/\lT/\oH/\rY/\wD->p:=by exact IJ):p:=h ⟨l,m,o,q,u,v,w,y,A,B,b,c,d,e,f,k⟩
theorem aGl {a0 a1 a2 a3 a4 a5 a6 a7 a8 a9 jE kD lT oH rY wD BV p:Prop} (m:a0) (o:a1) (q:a2) (u:a3) (v:a4) (w:a5) (y:a6) (A:a7) (B:a8) (D:a9) (b:jE) (c:kD) (d:lT) (e:oH) (f:rY) (k:wD) (l:BV) (h:a0/\a1/\a2/\a3/\a4/\a5/\a6/\a7/\a8/\a9/\jE/\kD/\lT/\oH/\rY/\wD/\BV->p:=by exact IJ):p:=h ⟨m,o,q,u,v,w,y,A,B,D,b,c,d,e,f,k,l⟩
theorem aGm {a0 a1 a2 a3 a4 a5 a6 a7 a8 a9 jE kD lT oH rY wD BV JD p:Prop} (o:a0) (q:a1) (u:a2) (v:a3) (w:a4) (y:a5) (A:a6) (B:a7) (D:a8) (E:a9) (b:jE) (c:kD) (d:lT) (e:oH) (f:rY) (k:wD) (l:BV) (m:JD) (h:a0/\a1/\a2/\a3/\a4/\a5/\a6/\a7/\a8/\a9/\jE/\kD/\lT/\oH/\rY/\wD/\BV/\JD->p:=by exact IJ):p:=h ⟨o,q,u,v,w,y,A,B,D,E,b,c,d,e,f,k,l,m⟩
theorem aLz {a0 a1 a2 a3 a4 a5 a6 a7 a8 a9 jE kD lT oH rY wD BV JD YU p:Prop} (q:a0) (u:a1) (v:a2) (w:a3) (y:a4) (A:a5) (B:a6) (D:a7) (E:a8) (G:a9) (b:jE) (c:kD) (d:lT) (e:oH) (f:rY) (k:wD) (l:BV) (m:JD) (o:YU) (h:a0/\a1/\a2/\a3/\a4/\a5/\a6/\a7/\a8/\a9/\jE/\kD/\lT/\oH/\rY/\wD/\BV/\JD/\YU->p:=by exact IJ):p:=h ⟨q,u,v,w,y,A,B,D,E,G,b,c,d,e,f,k,l,m,o⟩
theorem aQp {a0 a1 a2 a3 a4 a5 a6 a7 a8 a9 jE kD lT oH rY wD BV JD YU a19 p:Prop} (u:a0) (v:a1) (w:a2) (y:a3) (A:a4) (B:a5) (D:a6) (E:a7) (G:a8) (H:a9) (b:jE) (c:kD) (d:lT) (e:oH) (f:rY) (k:wD) (l:BV) (m:JD) (o:YU) (q:a19) (h:a0/\a1/\a2/\a3/\a4/\a5/\a6/\a7/\a8/\a9/\jE/\kD/\lT/\oH/\rY/\wD/\BV/\JD/\YU/\a19->p:=by exact IJ):p:=h ⟨u,v,w,y,A,B,D,E,G,H,b,c,d,e,f,k,l,m,o,q⟩
theorem aG {p:Prop} (h:p:=by (simp +decide only [↓ nS,yJ,tQ])):p:=h
theorem aN {a0 p:Prop} (b:a0) (h:a0->p:=by (intro z;simp +decide only [↓ nS,yJ,tQ,z])):p:=h b
theorem av2 {a0 a1 p:Prop} (b:a0) (c:a1) (h:a0/\a1->p:=by (intro z;simp +decide only [↓ nS,yJ,tQ,z])):p:=h ⟨b,c⟩
theorem qC {p:Prop} (h:p:=by (simp +decide only [↓ nS,PL,tQ,ne_eq])):p:=h
theorem LF {a0 p:Prop} (b:a0) (h:a0->p:=by (intro z;simp +decide only [↓ nS,PL,tQ,ne_eq,z])):p:=h b
theorem ag2 {a0 a1 p:Prop} (b:a0) (c:a1) (h:a0/\a1->p:=by (intro z;simp +decide only [↓ nS,PL,tQ,ne_eq,z])):p:=h ⟨b,c⟩
theorem eT {p:Prop} (h:p:=by (simp +decide only [↓ nS,yJ,tQ];rfl)):p:=h
theorem aD {p:Prop} (h:p:=by omega):p:=h
theorem Sl.lX {a:AV} {xs:List AV} (h:Sl a xs) (s:Sto) (d:Option ORes):BZ (some 1) s a d=some (.val (.int .i64 (xs.length:Nat))):=h.len
theorem Sl.iX {a:AV} {xs:List AV} (h:Sl a xs) (P:Program) (t:TypeId) (v:AV):bN P t a v=vP (sF P t) xs v (eB P t a v):=h.idx
theorem Sl.sX {a:AV} {xs:List AV} (h:Sl a xs) (Y:Nat->Prop):eK Y a:=h.stab
end
end Go.Abs
namespace Go.Proofs.YtdipddlhenoglaaGreat
open Go.Abs Go
noncomputable section
set_option maxRecDepth 10000
abbrev fZ:=TSl cS
abbrev nP:=T2 cS cS
abbrev cG:=TSl nP
abbrev XM:=T3 cS cG cG
abbrev BX:=TSl XM
abbrev vO:=T4 cS cS cG BX
abbrev qP:=T2 cS cS
abbrev NE:=T5 (TSl vO) fZ (TSl qP) fZ cS
def TPatN:Nat->AV->Prop
 | 0,_=>False
 | d+1,a=>T4 cS cS sA (TSl (TPatN d)) a
def wX (a:AV):Prop:=∃ d,TPatN d a
abbrev eH:=T4 cS cS fZ (TSl wX)
abbrev AG:=T2 sA cS
abbrev rT:=TSl AG
abbrev gC:=T4 (TSl eH) fZ cS rT
theorem TSl.mono {A B:AV->Prop} (h:∀ a,A a->B a) {a:AV} (d:TSl A a):TSl B a:=by
 obtain ⟨xs,b,c⟩:=d;exact ⟨xs,b,fun x e=>h x (c x e)⟩
theorem TPatN.succ:∀ (d:Nat) (a:AV),TPatN d a->TPatN (d+1) a
 | 0,_,h=>h.elim
 | d+1,_,⟨x,y,z,u,e,b,c,f,k⟩=>⟨x,y,z,u,e,b,c,f,TSl.mono (TPatN.succ d) k⟩
theorem TPatN.le {d b:Nat} (c:d<=b) {a:AV} (h:TPatN d a):TPatN b a:=by
 induction c with
 | refl=>exact h
 | step _ e=>exact TPatN.succ _ _ e
theorem aT:Tu fZ:=hG (AI tu_int)
theorem tk_val:Tk 2 nP:=tk2 tu_int tu_int
theorem tu_vals:Tu cG:=hG (jM tk_val)
theorem tk_fr:Tk 3 XM:=tk3 tu_int tu_vals tu_vals
theorem eE:Tu BX:=hG (jM tk_fr)
theorem tk_ob:Tk 4 vO:=tk4 tu_int tu_int tu_vals eE
theorem lK:Tu (TSl vO):=hG (jM tk_ob)
theorem tk_out:Tk 2 qP:=tk2 tu_int tu_int
theorem dY:Tu (TSl qP):=hG (jM tk_out)
theorem mX:Tk 5 NE:=tk5 lK aT dY aT tu_int
theorem cA:∀ d,Tk 4 (TPatN d)
 | 0=>fun _ h=>h.elim
 | d+1=>tk4 tu_int tu_int tu_str (hG (jM (cA d)))
theorem tk_pat:Tk 4 wX:=fun a ⟨d,h⟩=>cA d a h
theorem fG:Tu (TSl wX):=hG (jM tk_pat)
theorem tk_node:Tk 4 eH:=tk4 tu_int tu_int aT fG
theorem dZ:Tu (TSl eH):=hG (jM tk_node)
theorem tk_con:Tk 2 AG:=tk2 tu_str tu_int
theorem eA:Tu rT:=hG (jM tk_con)
theorem cH:Tk 4 gC:=tk4 dZ aT tu_int eA
def inR (n l h:Int):Bool:=decide (l<=n)&&decide (n<=h)
def pO (n:Int):Bool:=inR n (-1000000000) 1000000000
def gM (b no:Int) (v:AV):Bool:=
 if (v.fld 0).num=1 then pO (v.fld 1).num else if (v.fld 0).num=2 then inR (v.fld 1).num 0 1 else if (v.fld 0).num=3 then decide ((v.fld 1).num=0)
 else if (v.fld 0).num=4 then inR (v.fld 1).num 0 (b-1) else if (v.fld 0).num=5 then inR (v.fld 1).num 0 (no-1) else false
def eI (c no:Int) (b:Int) (l:List AV):Bool:=decide ((l.length:Int)<=b)&&l.all (gM c no)
def eJ (n:AV):Int:=
 if (n.fld 0).num∈[6,9,10,11,12,13,18,22] then 2 else if (n.fld 0).num=14 then (n.fld 2).els.length
 else if (n.fld 0).num∈[7,8,16,17,15,19,20,23,24,26] then 1 else 0
def eF (ns:List AV) (n:Int):AV:=ns.getD n.toNat .top
def NF (ns:List AV) (b no:Int) (f:AV):Bool:=
 inR (f.fld 0).num 0 ((ns.length:Int)-1)&&eI b no 30 (f.fld 1).els&&eI b no (eJ (eF ns (f.fld 0).num)) (f.fld 2).els
def nQ (ns:List AV) (b no:Int) (l:List AV):Bool:=decide (l.length<=40)&&l.all (NF ns b no)
def kB (ns:List AV) (f:AV):Bool:=decide (((f.fld 2).els.length:Int)<eJ (eF ns (f.fld 0).num))
def iO (os:List AV) (k:Int):Bool:=inR k 0 ((os.length:Int)-1)&&decide (((os.getD k.toNat .top).fld 0).num=6)
def dG (os:List AV):Nat:=(os.filter fun o=>decide ((o.fld 0).num=6)).length
def AH (o:AV):Bool:=inR (o.fld 0).num 0 3&&pO (o.fld 1).num
end
end Go.Proofs.YtdipddlhenoglaaGreat
/-
 Whether something is so of all elements of a list: the functions that take it as a function.
-/
namespace Go.Abs
noncomputable section
theorem aGn {P:Program} {O:bP} {H:cQ} {c:Code} {b:Nat} {fn:FuncId} {d:Tr AV} {s:Sto} {Q:Ex->Env->Prop} (I:Nat->Tr AV->Prop) (m:Nat->Nat) (f:I 0 d)
 (l:∀ i t,I i t->Wk P O H c ⟨b,none,fn,t,[],s,.no⟩ (FF (fun i e=>∃ t,e=⟨b,none,fn,t,[],s,.no⟩/\I i t) m i Q)):Wk P O H (.loop c) ⟨b,none,fn,d,[],s,.no⟩ Q:=
 aM (fun i e=>∃ t,e=⟨b,none,fn,t,[],s,.no⟩/\I i t) m 0 ⟨_,rfl,f⟩ fun i e ⟨t,k,h⟩=>by subst k;exact l i t h
end
end Go.Abs
namespace Go.Proofs.YtdipddlhenoglaaGreat
open Go.Abs Go Go.Abs.TryzF
noncomputable section
set_option maxRecDepth 10000
def OS (F:FuncId) (T:AV->Prop):Prop:=∀ {g:FuncId} {first cap:List AV} {D:AV->Prop},(∀ x,D x->T x)->∀ (p:AV->Bool),UnderE 0 (.func (.func g) first cap)->(∀ x,D x->Abs.Returns Tryz.prog g (first++[x]++cap) (.bool (p x)))->∀ {a:AV},TSl D a->Abs.Returns Tryz.prog F [a,.func (.func g) first cap] (.int .i64 (tG p a.els 0))
def OT (F:FuncId) (T:AV->Prop):Prop:=∀ {g:FuncId} {first cap:List AV} {D:AV->Prop},(∀ x,D x->T x)->∀ (p:AV->Bool),UnderE 0 (.func (.func g) first cap)->(∀ x,D x->Abs.Returns Tryz.prog g (first++[x]++cap) (.bool (p x)))->∀ {a:AV},TSl D a->Abs.Returns Tryz.prog F [a,.func (.func g) first cap] (.bool (a.els.any p))
def LG (F:FuncId) (T:AV->Prop):Prop:=∀ {g:FuncId} {first cap:List AV} {D:AV->Prop},(∀ x,D x->T x)->∀ (p:AV->Bool),UnderE 0 (.func (.func g) first cap)->(∀ x,D x->Abs.Returns Tryz.prog g (first++[x]++cap) (.bool (p x)))->∀ {a:AV},TSl D a->Abs.Returns Tryz.prog F [a,.func (.func g) first cap] (.bool (a.els.all p))
def LH (F:FuncId) (T:AV->Prop):Prop:=∀ {g:FuncId} {first cap:List AV} {D:AV->Prop},(∀ x,D x->T x)->∀ (p:AV->Bool),UnderE 0 (.func (.func g) first cap)->(∀ x,D x->Abs.Returns Tryz.prog g (first++[x]++cap) (.bool (p x)))->∀ x,D x->Abs.Returns Tryz.prog F ([]++[x]++[.pf (.func (.func g) first cap)]) (.bool (!p x))
theorem BG {A B C D p:Prop} (x:A) (y:B) (z:C) (w:D) (h:A->B->C->D->p:=by
 rename_i g first cap D
 intro N O P H v p U h a Q;obtain ⟨xs,e,M⟩:=Q;have T:=e.2;refine aF (L:=[aHd g first cap D fun x=>.bool (p x)]) (elist_cons (CM h) aE) aL (by kernel_rfl) N O P rfl rfl (aA (oM e fun x J=>(H x (v x (M x J))).1).und (aA U.und aC)) aS ?_;rw [e.els];simp +contextual +decide (maxSteps:=1000000) only [↓ wP,wQ,tf,Nat.reduceAdd,wS,reduceCtorEq,e.len];refine aGn (fun i t=>t.val 0=a/\t.val 1=.func (.func g) first cap/\t.val 7=.int .i64 (xs.length:Nat)/\t.val 8=.int .i64 (i:Nat)/\i<=xs.length/\tG p xs 0=tG p (xs.drop i) i) (fun i=>xs.length-i) ⟨by simp +decide only [↓ nS,yJ,tQ],by simp +decide only [↓ nS,yJ,tQ],by simp +decide only [↓ nS,yJ,tQ],by simp +decide only [↓ nS,yJ,tQ];rfl,Nat.zero_le _,rfl⟩ ?_;rintro i t ⟨o,q,u,G,S,c⟩
 rcases Nat.lt_or_ge i xs.length with k | E
 ·obtain ⟨x,b,J,X,R,f,V,I⟩:=bI (fun x h=>H.len (v x h)) M T k
  rw [R,tG]at c
  have l:=fun {d:Option AV}=>H.pf (v x b) (d:=d)
  cases m:p x with
  | true=>
    rw [m,if_pos rfl]at c;simp +contextual +decide (maxSteps:=1000000) only [↓ wP,wQ,tf,Nat.reduceAdd,wS,reduceCtorEq,o,q,u,G,e.idx,f,I,l,pQ b,m,c]
  | false=>
    rw [m,if_neg (by decide)]at c;simp +contextual +decide (maxSteps:=1000000) only [↓ wP,wQ,tf,Nat.reduceAdd,wS,reduceCtorEq,o,q,u,G,e.idx,f,I,l,pQ b,m,V];exact ⟨i+1,by show _-_<_-_;omega,_,rfl,by simp +decide only [↓ nS,yJ,tQ,o],by simp +decide only [↓ nS,yJ,tQ,q],by simp +decide only [↓ nS,yJ,tQ,u],by simp +decide only [↓ nS,yJ,tQ],k,c⟩
 ·obtain rfl:i=xs.length:=Nat.le_antisymm S E
  rw [List.drop_length,tG]at c
  simp +contextual +decide (maxSteps:=1000000) only [↓ wP,wQ,tf,Nat.reduceAdd,wS,reduceCtorEq,o,q,u,G,bG,c]):p:=h x y z w
theorem BH {A B C D E p:Prop} (x:A) (y:B) (z:C) (w:D) (v:E) (h:A->B->C->D->E->p:=by
 rename_i g first cap D
 intro l e f k u b p d h a c;have q:=l b p d h c;obtain ⟨xs,o,m⟩:=c;refine aF (elist_cons (bX q) aE) aL (by kernel_rfl) e f k rfl rfl (aA (oM o fun x h=>(u x (b x (m x h))).1).und (aA d.und aC)) aI ?_;simp +contextual +decide (maxSteps:=1000000) only [↓ wP,wQ,tf,Nat.reduceAdd,wS,reduceCtorEq,fU]
 rw [ET]):p:=h x y z w v
theorem EQ {A B C D p:Prop} (x:A) (y:B) (z:C) (w:D) (h:A->B->C->D->p:=by
 rename_i g first cap D
 intro k l m f e p q h x b;refine aF (elist_cons (CM h) aE) aL (by kernel_rfl) k l m rfl rfl (aA (f x (e x b)).1.und (aA (kL q).und aC)) aI ?_
 have o:=fun {s:Sto}=>pQ (g:=g) (first:=first) (cap:=cap) (D:=D) (p:=fun x=>.bool (p x)) (L:=[]) (s:=s) b
 obtain ⟨_,cs,rfl,c,d⟩:=f x (e x b);have u:=Nat.le_of_eq ((Nat.zero_add _).trans c.symm)
 simp +contextual +decide (maxSteps:=1000000) only [↓ wP,wQ,tf,Nat.reduceAdd,wS,reduceCtorEq,o,c,d,gD c,u]):p:=h x y z w
theorem aGo {A B C p:Prop} (x:A) (y:B) (z:C) (h:A->B->C->p:=by
 rename_i g first cap D
 intro e f k d p m h x b;refine aF (elist_cons (CM h) aE) aL (by kernel_rfl) e f k rfl rfl (aA (tu_int x (d x b)).1.und (aA (kL m).und aC)) aI ?_
 have l:=fun {s:Sto}=>pQ (g:=g) (first:=first) (cap:=cap) (D:=D) (p:=fun x=>.bool (p x)) (L:=[]) (s:=s) b
 have c:=(tu_int x (d x b)).2
 simp +contextual +decide (maxSteps:=1000000) only [↓ wP,wQ,tf,Nat.reduceAdd,wS,reduceCtorEq,l,c]):p:=h x y z
section
variable {F C g:FuncId} {first cap:List AV} {a:AV} {r:Bool}
theorem aUe (c:UnderE 0 a) (o:UnderE 0 (.func (.func g) first cap)) (l:Abs.Returns Tryz.prog C [a,.func (.func F) [] [.pf (.func (.func g) first cap)]] (.bool r)):∀ args s,onL (.func (.func F) [] [.ptr 0 0 0]) (fun b=>b=a) (fun s=>s.get 0=some (aR 0 [.func (.func g) first cap])) args s->bT Tryz.prog C args s (.ret (.bool r) none):=fun args s m=>by
 match args,m with
 | [b,f],⟨e,h,k⟩=>
   subst e;subst h;exact uR l pP ⟨.und _ c.und,mA k rfl (by intro x d;simp at d;subst d;exact o.und),trivial⟩
theorem aUf {s:Sto} (c:s.get 0=some (aR 0 [.func (.func g) first cap])):orcL [entB C (onL (.func (.func F) [] [.ptr 0 0 0]) (fun b=>b=a) fun s=>s.get 0=some (aR 0 [.func (.func g) first cap])) fun _=>.bool r] C [a,.func (.func F) [] [.ptr 0 0 0]] s=some (.ret (.bool r) none):=jA ⟨rfl,rfl,c⟩
end
theorem yB {A B C D E F p:Prop} (x:A) (y:B) (z:C) (w:D) (v:E) (u:F) (h:A->B->C->D->E->F->p:=by
 rename_i g first cap D
 intro q G l m o J d p c h a e;have H:=q (first:=[]) (cap:=[.pf (.func (.func g) first cap)]) d (fun x=>!p x) (jB (fun _ h=>nomatch h) (by intro x k;simp at k;subst k;exact kL c)) (G d p c h) e;obtain ⟨xs,f,I⟩:=e
 have b:=oM f fun x h=>(J x (d x (I x h))).1
 refine aF (L:=[entB _ _ fun _=>.bool (a.els.any fun x=>!p x)]) (elist_cons (entB_ok (aUe b c H)) aE) aL (by kernel_rfl) l m o rfl rfl (aA b.und (aA c.und aC)) aI ?_;simp +contextual +decide (maxSteps:=1000000) only [↓ wP,wQ,tf,Nat.reduceAdd,wS,reduceCtorEq,aUf,f.cell]
 rw [<-List.not_all_eq_any_not,Bool.not_not]):p:=h x y z w v u
theorem aGp:OS 334 nP:=BG Tryz.func334 Tryz.ntmps334 Tryz.results334 @tk_val
theorem OU:OT 299 nP:=BH @aGp Tryz.func299 Tryz.ntmps299 Tryz.results299 @tk_val
theorem aMa:OS 366 XM:=BG Tryz.func366 Tryz.ntmps366 Tryz.results366 @tk_fr
theorem TT:OT 335 XM:=BH @aMa Tryz.func335 Tryz.ntmps335 Tryz.results335 @tk_fr
theorem aMb:OS 298 vO:=BG Tryz.func298 Tryz.ntmps298 Tryz.results298 @tk_ob
theorem TU:OT 239 vO:=BH @aMb Tryz.func239 Tryz.ntmps239 Tryz.results239 @tk_ob
theorem aGq:OS 306 qP:=BG Tryz.func306 Tryz.ntmps306 Tryz.results306 @tk_out
theorem OV:OT 248 qP:=BH @aGq Tryz.func248 Tryz.ntmps248 Tryz.results248 @tk_out
theorem aGr:OS 116 cS:=BG Tryz.func116 Tryz.ntmps116 Tryz.results116 @tu_int
theorem BI:OT 72 cS:=BH @aGr Tryz.func72 Tryz.ntmps72 Tryz.results72 @tu_int
theorem aGs:OS 328 AG:=BG Tryz.func328 Tryz.ntmps328 Tryz.results328 @tk_con
theorem OW:OT 286 AG:=BH @aGs Tryz.func286 Tryz.ntmps286 Tryz.results286 @tk_con
theorem aAs:OS 330 eH:=BG Tryz.func330 Tryz.ntmps330 Tryz.results330 @tk_node
theorem LJ:OT 289 eH:=BH @aAs Tryz.func289 Tryz.ntmps289 Tryz.results289 @tk_node
theorem aGt:OS 365 wX:=BG Tryz.func365 Tryz.ntmps365 Tryz.results365 @tk_pat
theorem OX:OT 332 wX:=BH @aGt Tryz.func332 Tryz.ntmps332 Tryz.results332 @tk_pat
theorem aGu:LH 287 AG:=EQ Tryz.func287 Tryz.ntmps287 Tryz.results287 @tk_con
theorem aMc:LG 230 AG:=yB @OW @aGu Tryz.func230 Tryz.ntmps230 Tryz.results230 @tk_con
theorem aAt:LH 290 eH:=EQ Tryz.func290 Tryz.ntmps290 Tryz.results290 @tk_node
theorem aGv:LG 235 eH:=yB @LJ @aAt Tryz.func235 Tryz.ntmps235 Tryz.results235 @tk_node
theorem aGw:LH 333 wX:=EQ Tryz.func333 Tryz.ntmps333 Tryz.results333 @tk_pat
theorem XN:LG 296 wX:=yB @OX @aGw Tryz.func296 Tryz.ntmps296 Tryz.results296 @tk_pat
theorem aGx:LH 297 cS:=aGo Tryz.func297 Tryz.ntmps297 Tryz.results297
theorem aMd:LG 237 cS:=yB @BI @aGx Tryz.func237 Tryz.ntmps237 Tryz.results237 @tu_int
theorem aGy:LH 300 nP:=EQ Tryz.func300 Tryz.ntmps300 Tryz.results300 @tk_val
theorem aMe:LG 241 nP:=yB @OU @aGy Tryz.func241 Tryz.ntmps241 Tryz.results241 @tk_val
theorem aMf:LH 336 XM:=EQ Tryz.func336 Tryz.ntmps336 Tryz.results336 @tk_fr
theorem aGz:LG 301 XM:=yB @TT @aMf Tryz.func301 Tryz.ntmps301 Tryz.results301 @tk_fr
theorem aMg:LH 240 vO:=EQ Tryz.func240 Tryz.ntmps240 Tryz.results240 @tk_ob
theorem aQq:LG 182 vO:=yB @TU @aMg Tryz.func182 Tryz.ntmps182 Tryz.results182 @tk_ob
theorem aHa:LH 249 qP:=EQ Tryz.func249 Tryz.ntmps249 Tryz.results249 @tk_out
theorem aMh:LG 185 qP:=yB @OV @aHa Tryz.func185 Tryz.ntmps185 Tryz.results185 @tk_out
theorem aHb:LH 304 cS:=aGo Tryz.func304 Tryz.ntmps304 Tryz.results304
theorem aMi:LG 245 cS:=yB @BI @aHb Tryz.func245 Tryz.ntmps245 Tryz.results245 @tu_int
end
end Go.Proofs.YtdipddlhenoglaaGreat
