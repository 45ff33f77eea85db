/-
  Programs, worlds and states, in plain words, as they lie in the machine.
-/
import Derived.Test.YtdipddlhenoglaaGreatEy
import Derived.Test.YtdipddlhenoglaaGreatEp
import Derived.Test.YtdipddlhenoglaaGreatEt
import Derived.Test.YtdipddlhenoglaaGreatTf
set_option linter.unusedVariables false
set_option linter.unusedSimpArgs false
namespace Go.Abs
noncomputable section
theorem wS:type_of% (And.intro @ne_eq.{1} (And.intro @if_true.{1} (And.intro @if_true.{0} (And.intro @if_false.{1} (And.intro @if_false.{0} (And.intro @aUj (And.intro @wgu (And.intro @yM (And.intro @yN (And.intro @Bool.false_and (And.intro @Bool.true_and (And.intro @Bool.and_false (And.intro @Bool.and_true (And.intro @decide_true (@decide_false))))))))))))))):=And.intro @ne_eq.{1} (And.intro @if_true.{1} (And.intro @if_true.{0} (And.intro @if_false.{1} (And.intro @if_false.{0} (And.intro @aUj (And.intro @wgu (And.intro @yM (And.intro @yN (And.intro @Bool.false_and (And.intro @Bool.true_and (And.intro @Bool.and_false (And.intro @Bool.and_true (And.intro @decide_true (@decide_false))))))))))))))
theorem wT:type_of% (And.intro @if_true.{1} (And.intro @if_true.{0} (And.intro @if_false.{1} (And.intro @if_false.{0} (And.intro @decide_true (And.intro @decide_false (And.intro @Bool.false_and (And.intro @Bool.true_and (And.intro @Bool.and_false (And.intro @Bool.and_true (And.intro @Bool.not_true (And.intro @Bool.not_false (And.intro @Bool.or_false (And.intro @Bool.false_or (And.intro @Bool.true_or (And.intro @Bool.or_true (And.intro @List.getD_cons_zero.{0} (@List.getD_cons_succ.{0})))))))))))))))))):=And.intro @if_true.{1} (And.intro @if_true.{0} (And.intro @if_false.{1} (And.intro @if_false.{0} (And.intro @decide_true (And.intro @decide_false (And.intro @Bool.false_and (And.intro @Bool.true_and (And.intro @Bool.and_false (And.intro @Bool.and_true (And.intro @Bool.not_true (And.intro @Bool.not_false (And.intro @Bool.or_false (And.intro @Bool.false_or (And.intro @Bool.true_or (And.intro @Bool.or_true (And.intro @List.getD_cons_zero.{0} (@List.getD_cons_succ.{0})))))))))))))))))
end
end Go.Abs
namespace Go.Abs
section
open Go.Abs.TryzF
theorem IY {a p q:Prop} (h:a->p=q:=by (intro z;conv=>(lhs;simp +contextual +decide (maxSteps:=1000000) only [↓ wP,wQ,tf,Nat.reduceAdd,Nat.reduceMul,wS,reduceCtorEq,z]))):a->p=q:=h
theorem IZ {a p:Prop} (h:a->p:=by (intro z;simp +contextual +decide (maxSteps:=1000000) only [↓ wP,wQ,tf,Nat.reduceAdd,Nat.reduceMul,wS,reduceCtorEq,z])):a->p:=h
theorem zI {p q:Prop} (g:q) (h:p=q:=by conv=>(lhs;simp +contextual +decide (maxSteps:=1000000) only [↓ wP,wQ,tf,Nat.reduceAdd,Nat.reduceMul,wS,reduceCtorEq])):p:=h.mpr g
theorem XW {p:Prop} (h:p:=by simp +contextual +decide (maxSteps:=1000000) only [↓ wP,wQ,tf,Nat.reduceAdd,Nat.reduceMul,wS,reduceCtorEq]):p:=h
theorem wU {a0 p q:Prop} (b:a0) (g:q) (h:a0->p=q:=by exact IY):p:=(h b).mpr g
theorem JA {a0 a1 p q:Prop} (b:a0) (c:a1) (g:q) (h:a0/\a1->p=q:=by exact IY):p:=(h ⟨b,c⟩).mpr g
theorem GU {a0 a1 a2 p q:Prop} (b:a0) (c:a1) (d:a2) (g:q) (h:a0/\a1/\a2->p=q:=by exact IY):p:=(h ⟨b,c,d⟩).mpr g
theorem CT {a0 a1 a2 a3 p q:Prop} (b:a0) (c:a1) (d:a2) (e:a3) (g:q) (h:a0/\a1/\a2/\a3->p=q:=by exact IY):p:=(h ⟨b,c,d,e⟩).mpr g
theorem EW {a0 a1 a2 a3 a4 p q:Prop} (b:a0) (c:a1) (d:a2) (e:a3) (f:a4) (g:q) (h:a0/\a1/\a2/\a3/\a4->p=q:=by exact IY):p:=(h ⟨b,c,d,e,f⟩).mpr g
theorem PJ {a0 a1 a2 a3 a4 a5 p q:Prop} (b:a0) (c:a1) (d:a2) (e:a3) (f:a4) (k:a5) (g:q) (h:a0/\a1/\a2/\a3/\a4/\a5->p=q:=by exact IY):p:=(h ⟨b,c,d,e,f,k⟩).mpr g
theorem UN {a0 a1 a2 a3 a4 a5 a6 p q:Prop} (b:a0) (c:a1) (d:a2) (e:a3) (f:a4) (k:a5) (l:a6) (g:q) (h:a0/\a1/\a2/\a3/\a4/\a5/\a6->p=q:=by exact IY):p:=(h ⟨b,c,d,e,f,k,l⟩).mpr g
theorem JB {a0 a1 a2 a3 a4 a5 a6 a7 p q:Prop} (b:a0) (c:a1) (d:a2) (e:a3) (f:a4) (k:a5) (l:a6) (m:a7) (g:q) (h:a0/\a1/\a2/\a3/\a4/\a5/\a6/\a7->p=q:=by exact IY):p:=(h ⟨b,c,d,e,f,k,l,m⟩).mpr g
theorem UO {a0 a1 a2 a3 a4 a5 a6 a7 a8 p q:Prop} (b:a0) (c:a1) (d:a2) (e:a3) (f:a4) (k:a5) (l:a6) (m:a7) (o:a8) (g:q) (h:a0/\a1/\a2/\a3/\a4/\a5/\a6/\a7/\a8->p=q:=by exact IY):p:=(h ⟨b,c,d,e,f,k,l,m,o⟩).mpr g
theorem rA {a0 a1 a2 a3 a4 a5 a6 a7 a8 a9 p q:Prop} (b:a0) (c:a1) (d:a2) (e:a3) (f:a4) (k:a5) (l:a6) (m:a7) (o:a8) (u:a9) (g:q) (h:a0/\a1/\a2/\a3/\a4/\a5/\a6/\a7/\a8/\a9->p=q:=by exact IY):p:=(h ⟨b,c,d,e,f,k,l,m,o,u⟩).mpr g
theorem xY {a0 a1 a2 a3 a4 a5 a6 a7 a8 a9 jF p q:Prop} (c:a0) (d:a1) (e:a2) (f:a3) (k:a4) (l:a5) (m:a6) (o:a7) (u:a8) (v:a9) (b:jF) (g:q) (h:a0/\a1/\a2/\a3/\a4/\a5/\a6/\a7/\a8/\a9/\jF->p=q:=by exact IY):p:=(h ⟨c,d,e,f,k,l,m,o,u,v,b⟩).mpr g
theorem HA {a0 a1 a2 a3 a4 a5 a6 a7 a8 a9 jF kI p q:Prop} (d:a0) (e:a1) (f:a2) (k:a3) (l:a4) (m:a5) (o:a6) (u:a7) (v:a8) (w:a9) (b:jF) (c:kI) (g:q) (h:a0/\a1/\a2/\a3/\a4/\a5/\a6/\a7/\a8/\a9/\jF/\kI->p=q:=by exact IY):p:=(h ⟨d,e,f,k,l,m,o,u,v,w,b,c⟩).mpr g
theorem tI {a0 a1 a2 a3 a4 a5 a6 a7 a8 a9 jF kI mK p q:Prop} (e:a0) (f:a1) (k:a2) (l:a3) (m:a4) (o:a5) (u:a6) (v:a7) (w:a8) (y:a9) (b:jF) (c:kI) (d:mK) (g:q) (h:a0/\a1/\a2/\a3/\a4/\a5/\a6/\a7/\a8/\a9/\jF/\kI/\mK->p=q:=by exact IY):p:=(h ⟨e,f,k,l,m,o,u,v,w,y,b,c,d⟩).mpr g
theorem CE {a0 a1 a2 a3 a4 a5 a6 a7 a8 a9 jF kI mK oX p q:Prop} (f:a0) (k:a1) (l:a2) (m:a3) (o:a4) (u:a5) (v:a6) (w:a7) (y:a8) (A:a9) (b:jF) (c:kI) (d:mK) (e:oX) (g:q) (h:a0/\a1/\a2/\a3/\a4/\a5/\a6/\a7/\a8/\a9/\jF/\kI/\mK/\oX->p=q:=by exact IY):p:=(h ⟨f,k,l,m,o,u,v,w,y,A,b,c,d,e⟩).mpr g
theorem wV {a0 a1 a2 a3 a4 a5 a6 a7 a8 a9 jF kI mK oX sI p q:Prop} (k:a0) (l:a1) (m:a2) (o:a3) (u:a4) (v:a5) (w:a6) (y:a7) (A:a8) (B:a9) (b:jF) (c:kI) (d:mK) (e:oX) (f:sI) (g:q) (h:a0/\a1/\a2/\a3/\a4/\a5/\a6/\a7/\a8/\a9/\jF/\kI/\mK/\oX/\sI->p=q:=by exact IY):p:=(h ⟨k,l,m,o,u,v,w,y,A,B,b,c,d,e,f⟩).mpr g
theorem AC {a0 a1 a2 a3 a4 a5 a6 a7 a8 a9 jF kI mK oX sI vY p q:Prop} (l:a0) (m:a1) (o:a2) (u:a3) (v:a4) (w:a5) (y:a6) (A:a7) (B:a8) (D:a9) (b:jF) (c:kI) (d:mK) (e:oX) (f:sI) (k:vY) (g:q) (h:a0/\a1/\a2/\a3/\a4/\a5/\a6/\a7/\a8/\a9/\jF/\kI/\mK/\oX/\sI/\vY->p=q:=by exact IY):p:=(h ⟨l,m,o,u,v,w,y,A,B,D,b,c,d,e,f,k⟩).mpr g
theorem PK {a0 a1 a2 a3 a4 a5 a6 a7 a8 a9 jF kI mK oX sI vY CB p q:Prop} (m:a0) (o:a1) (u:a2) (v:a3) (w:a4) (y:a5) (A:a6) (B:a7) (D:a8) (E:a9) (b:jF) (c:kI) (d:mK) (e:oX) (f:sI) (k:vY) (l:CB) (g:q) (h:a0/\a1/\a2/\a3/\a4/\a5/\a6/\a7/\a8/\a9/\jF/\kI/\mK/\oX/\sI/\vY/\CB->p=q:=by exact IY):p:=(h ⟨m,o,u,v,w,y,A,B,D,E,b,c,d,e,f,k,l⟩).mpr g
theorem HB {a0 a1 a2 a3 a4 a5 a6 a7 a8 a9 jF kI mK oX sI vY CB JU p q:Prop} (o:a0) (u:a1) (v:a2) (w:a3) (y:a4) (A:a5) (B:a6) (D:a7) (E:a8) (G:a9) (b:jF) (c:kI) (d:mK) (e:oX) (f:sI) (k:vY) (l:CB) (m:JU) (g:q) (h:a0/\a1/\a2/\a3/\a4/\a5/\a6/\a7/\a8/\a9/\jF/\kI/\mK/\oX/\sI/\vY/\CB/\JU->p=q:=by exact IY):p:=(h ⟨o,u,v,w,y,A,B,D,E,G,b,c,d,e,f,k,l,m⟩).mpr g
theorem UP {a0 a1 a2 a3 a4 a5 a6 a7 a8 a9 jF kI mK oX sI vY CB JU ZH p q:Prop} (u:a0) (v:a1) (w:a2) (y:a3) (A:a4) (B:a5) (D:a6) (E:a7) (G:a8) (H:a9) (b:jF) (c:kI) (d:mK) (e:oX) (f:sI) (k:vY) (l:CB) (m:JU) (o:ZH) (g:q) (h:a0/\a1/\a2/\a3/\a4/\a5/\a6/\a7/\a8/\a9/\jF/\kI/\mK/\oX/\sI/\vY/\CB/\JU/\ZH->p=q:=by exact IY):p:=(h ⟨u,v,w,y,A,B,D,E,G,H,b,c,d,e,f,k,l,m,o⟩).mpr g
theorem UQ {a0 a1 a2 a3 a4 a5 a6 a7 a8 a9 jF kI mK oX sI vY CB JU ZH a19 p q:Prop} (v:a0) (w:a1) (y:a2) (A:a3) (B:a4) (D:a5) (E:a6) (G:a7) (H:a8) (I:a9) (b:jF) (c:kI) (d:mK) (e:oX) (f:sI) (k:vY) (l:CB) (m:JU) (o:ZH) (u:a19) (g:q) (h:a0/\a1/\a2/\a3/\a4/\a5/\a6/\a7/\a8/\a9/\jF/\kI/\mK/\oX/\sI/\vY/\CB/\JU/\ZH/\a19->p=q:=by exact IY):p:=(h ⟨v,w,y,A,B,D,E,G,H,I,b,c,d,e,f,k,l,m,o,u⟩).mpr g
theorem sK {a0 p:Prop} (b:a0) (h:a0->p:=by exact IZ):p:=h b
theorem LW {a0 a1 p:Prop} (b:a0) (c:a1) (h:a0/\a1->p:=by exact IZ):p:=h ⟨b,c⟩
theorem az3 {a0 a1 a2 p:Prop} (b:a0) (c:a1) (d:a2) (h:a0/\a1/\a2->p:=by exact IZ):p:=h ⟨b,c,d⟩
theorem az4 {a0 a1 a2 a3 p:Prop} (b:a0) (c:a1) (d:a2) (e:a3) (h:a0/\a1/\a2/\a3->p:=by exact IZ):p:=h ⟨b,c,d,e⟩
theorem PL {a0 a1 a2 a3 a4 p:Prop} (b:a0) (c:a1) (d:a2) (e:a3) (f:a4) (h:a0/\a1/\a2/\a3/\a4->p:=by exact IZ):p:=h ⟨b,c,d,e,f⟩
theorem az6 {a0 a1 a2 a3 a4 a5 p:Prop} (b:a0) (c:a1) (d:a2) (e:a3) (f:a4) (k:a5) (h:a0/\a1/\a2/\a3/\a4/\a5->p:=by exact IZ):p:=h ⟨b,c,d,e,f,k⟩
theorem XX {a0 a1 a2 a3 a4 a5 a6 p:Prop} (b:a0) (c:a1) (d:a2) (e:a3) (f:a4) (k:a5) (l:a6) (h:a0/\a1/\a2/\a3/\a4/\a5/\a6->p:=by exact IZ):p:=h ⟨b,c,d,e,f,k,l⟩
theorem az8 {a0 a1 a2 a3 a4 a5 a6 a7 p:Prop} (b:a0) (c:a1) (d:a2) (e:a3) (f:a4) (k:a5) (l:a6) (m:a7) (h:a0/\a1/\a2/\a3/\a4/\a5/\a6/\a7->p:=by exact IZ):p:=h ⟨b,c,d,e,f,k,l,m⟩
theorem az9 {a0 a1 a2 a3 a4 a5 a6 a7 a8 p:Prop} (b:a0) (c:a1) (d:a2) (e:a3) (f:a4) (k:a5) (l:a6) (m:a7) (o:a8) (h:a0/\a1/\a2/\a3/\a4/\a5/\a6/\a7/\a8->p:=by exact IZ):p:=h ⟨b,c,d,e,f,k,l,m,o⟩
theorem LX {a0 a1 a2 a3 a4 a5 a6 a7 a8 a9 p:Prop} (b:a0) (c:a1) (d:a2) (e:a3) (f:a4) (k:a5) (l:a6) (m:a7) (o:a8) (q:a9) (h:a0/\a1/\a2/\a3/\a4/\a5/\a6/\a7/\a8/\a9->p:=by exact IZ):p:=h ⟨b,c,d,e,f,k,l,m,o,q⟩
theorem PM {a0 a1 a2 a3 a4 a5 a6 a7 a8 a9 jF p:Prop} (c:a0) (d:a1) (e:a2) (f:a3) (k:a4) (l:a5) (m:a6) (o:a7) (q:a8) (u:a9) (b:jF) (h:a0/\a1/\a2/\a3/\a4/\a5/\a6/\a7/\a8/\a9/\jF->p:=by exact IZ):p:=h ⟨c,d,e,f,k,l,m,o,q,u,b⟩
theorem vI {a0 a1 a2 a3 a4 a5 a6 a7 a8 a9 jF kI p:Prop} (d:a0) (e:a1) (f:a2) (k:a3) (l:a4) (m:a5) (o:a6) (q:a7) (u:a8) (v:a9) (b:jF) (c:kI) (h:a0/\a1/\a2/\a3/\a4/\a5/\a6/\a7/\a8/\a9/\jF/\kI->p:=by exact IZ):p:=h ⟨d,e,f,k,l,m,o,q,u,v,b,c⟩
theorem aHb {a0 a1 a2 a3 a4 a5 a6 a7 a8 a9 jF kI mK p:Prop} (e:a0) (f:a1) (k:a2) (l:a3) (m:a4) (o:a5) (q:a6) (u:a7) (v:a8) (w:a9) (b:jF) (c:kI) (d:mK) (h:a0/\a1/\a2/\a3/\a4/\a5/\a6/\a7/\a8/\a9/\jF/\kI/\mK->p:=by exact IZ):p:=h ⟨e,f,k,l,m,o,q,u,v,w,b,c,d⟩
theorem PN {a0 a1 a2 a3 a4 a5 a6 a7 a8 a9 jF kI mK oX p:Prop} (f:a0) (k:a1) (l:a2) (m:a3) (o:a4) (q:a5) (u:a6) (v:a7) (w:a8) (y:a9) (b:jF) (c:kI) (d:mK) (e:oX) (h:a0/\a1/\a2/\a3/\a4/\a5/\a6/\a7/\a8/\a9/\jF/\kI/\mK/\oX->p:=by exact IZ):p:=h ⟨f,k,l,m,o,q,u,v,w,y,b,c,d,e⟩
theorem aHc {a0 a1 a2 a3 a4 a5 a6 a7 a8 a9 jF kI mK oX sI p:Prop} (k:a0) (l:a1) (m:a2) (o:a3) (q:a4) (u:a5) (v:a6) (w:a7) (y:a8) (A:a9) (b:jF) (c:kI) (d:mK) (e:oX) (f:sI) (h:a0/\a1/\a2/\a3/\a4/\a5/\a6/\a7/\a8/\a9/\jF/\kI/\mK/\oX/\sI->p:=by exact IZ):p:=h ⟨k,l,m,o,q,u,v,w,y,A,b,c,d,e,f⟩
theorem aQp {a0 a1 a2 a3 a4 a5 a6 a7 a8 a9 jF kI mK oX sI vY p:Prop} (l:a0) (m:a1) (o:a2) (q:a3) (u:a4) (v:a5) (w:a6) (y:a7) (A:a8) (B:a9) (b:jF) (c:kI) (d:mK) (e:oX) (f:sI) (k:vY) (h:a0/\a1/\a2/\a3/\a4/\a5/\a6/\a7/\a8/\a9/\jF/\kI/\mK/\oX/\sI/\vY->p:=by exact IZ):p:=h ⟨l,m,o,q,u,v,w,y,A,B,b,c,d,e,f,k⟩
theorem aMp {a0 a1 a2 a3 a4 a5 a6 a7 a8 a9 jF kI mK oX sI vY CB p:Prop} (m:a0) (o:a1) (q:a2) (u:a3) (v:a4) (w:a5) (y:a6) (A:a7) (B:a8) (D:a9) (b:jF) (c:kI) (d:mK) (e:oX) (f:sI) (k:vY) (l:CB) (h:a0/\a1/\a2/\a3/\a4/\a5/\a6/\a7/\a8/\a9/\jF/\kI/\mK/\oX/\sI/\vY/\CB->p:=by exact IZ):p:=h ⟨m,o,q,u,v,w,y,A,B,D,b,c,d,e,f,k,l⟩
theorem aQq {a0 a1 a2 a3 a4 a5 a6 a7 a8 a9 jF kI mK oX sI vY CB JU p:Prop} (o:a0) (q:a1) (u:a2) (v:a3) (w:a4) (y:a5) (A:a6) (B:a7) (D:a8) (E:a9) (b:jF) (c:kI) (d:mK) (e:oX) (f:sI) (k:vY) (l:CB) (m:JU) (h:a0/\a1/\a2/\a3/\a4/\a5/\a6/\a7/\a8/\a9/\jF/\kI/\mK/\oX/\sI/\vY/\CB/\JU->p:=by exact IZ):p:=h ⟨o,q,u,v,w,y,A,B,D,E,b,c,d,e,f,k,l,m⟩
theorem aMq {a0 a1 a2 a3 a4 a5 a6 a7 a8 a9 jF kI mK oX sI vY CB JU ZH p:Prop} (q:a0) (u:a1) (v:a2) (w:a3) (y:a4) (A:a5) (B:a6) (D:a7) (E:a8) (G:a9) (b:jF) (c:kI) (d:mK) (e:oX) (f:sI) (k:vY) (l:CB) (m:JU) (o:ZH) (h:a0/\a1/\a2/\a3/\a4/\a5/\a6/\a7/\a8/\a9/\jF/\kI/\mK/\oX/\sI/\vY/\CB/\JU/\ZH->p:=by exact IZ):p:=h ⟨q,u,v,w,y,A,B,D,E,G,b,c,d,e,f,k,l,m,o⟩
theorem aQr {a0 a1 a2 a3 a4 a5 a6 a7 a8 a9 jF kI mK oX sI vY CB JU ZH a19 p:Prop} (u:a0) (v:a1) (w:a2) (y:a3) (A:a4) (B:a5) (D:a6) (E:a7) (G:a8) (H:a9) (b:jF) (c:kI) (d:mK) (e:oX) (f:sI) (k:vY) (l:CB) (m:JU) (o:ZH) (q:a19) (h:a0/\a1/\a2/\a3/\a4/\a5/\a6/\a7/\a8/\a9/\jF/\kI/\mK/\oX/\sI/\vY/\CB/\JU/\ZH/\a19->p:=by exact IZ):p:=h ⟨u,v,w,y,A,B,D,E,G,H,b,c,d,e,f,k,l,m,o,q⟩
theorem aG {p:Prop} (h:p:=by (simp +decide only [↓ nR,yI,tT])):p:=h
theorem aM {a0 p:Prop} (b:a0) (h:a0->p:=by (intro z;simp +decide only [↓ nR,yI,tT,z])):p:=h b
theorem av2 {a0 a1 p:Prop} (b:a0) (c:a1) (h:a0/\a1->p:=by (intro z;simp +decide only [↓ nR,yI,tT,z])):p:=h ⟨b,c⟩
theorem qO {p:Prop} (h:p:=by (simp +decide only [↓ nR,QG,tT,ne_eq])):p:=h
theorem ag1 {a0 p:Prop} (b:a0) (h:a0->p:=by (intro z;simp +decide only [↓ nR,QG,tT,ne_eq,z])):p:=h b
theorem ag2 {a0 a1 p:Prop} (b:a0) (c:a1) (h:a0/\a1->p:=by (intro z;simp +decide only [↓ nR,QG,tT,ne_eq,z])):p:=h ⟨b,c⟩
theorem eA {p:Prop} (h:p:=by (simp +decide only [↓ nR,yI,tT];rfl)):p:=h
theorem aC {p:Prop} (h:p:=by omega):p:=h
theorem Sl.lX {a:AV} {xs:List AV} (h:Sl a xs) (s:Sto) (d:Option ORes):HC (some 1) s a d=some (.val (.int .i64 (xs.length:Nat))):=h.len
theorem Sl.iX {a:AV} {xs:List AV} (h:Sl a xs) (P:Program) (t:TypeId) (v:AV):bW P t a v=wY (qD P t) xs v (fJ P t a v):=h.idx
theorem Sl.sX {a:AV} {xs:List AV} (h:Sl a xs) (Y:Nat->Prop):kF Y a:=h.stab
end
end Go.Abs
namespace Go.Proofs.YtdipddlhenoglaaGreat
open Go.Abs Go
noncomputable section
set_option maxRecDepth 10000
abbrev iD:=TSl dA
abbrev tJ:=T2 dA dA
abbrev lP:=TSl tJ
abbrev TFr:=T3 dA lP lP
abbrev EX:=TSl TFr
abbrev AE:=T4 dA dA lP EX
abbrev xZ:=T2 dA dA
abbrev RZ:=T5 (TSl AE) iD (TSl xZ) iD dA
def TPatN:Nat->AV->Prop
 | 0,_=>False
 | d+1,a=>T4 dA dA sL (TSl (TPatN d)) a
def wW (a:AV):Prop:=∃ d,TPatN d a
abbrev eL:=T4 dA dA iD (TSl wW)
abbrev AF:=T2 sL dA
abbrev sG:=TSl AF
abbrev dD:=T4 (TSl eL) iD dA sG
theorem TSl.mono {A B:AV->Prop} (h:∀ a,A a->B a) {a:AV} (d:TSl A a):TSl B a:=by
 obtain ⟨xs,b,c⟩:=d;exact ⟨xs,b,fun x e=>h x (c x e)⟩
theorem TPatN.succ:∀ (d:Nat) (a:AV),TPatN d a->TPatN (d+1) a
 | 0,_,h=>h.elim
 | d+1,_,⟨x,y,z,u,e,b,c,f,k⟩=>⟨x,y,z,u,e,b,c,f,TSl.mono (TPatN.succ d) k⟩
theorem TPatN.le {d b:Nat} (c:d<=b) {a:AV} (h:TPatN d a):TPatN b a:=by
 induction c with
 | refl=>exact h
 | step _ e=>exact TPatN.succ _ _ e
theorem aT:Tu iD:=kE (MC tu_int)
theorem tk_val:Tk 2 tJ:=tk2 tu_int tu_int
theorem tu_vals:Tu lP:=kE (kO tk_val)
theorem tk_fr:Tk 3 TFr:=tk3 tu_int tu_vals tu_vals
theorem gZ:Tu EX:=kE (kO tk_fr)
theorem tk_ob:Tk 4 AE:=tk4 tu_int tu_int tu_vals gZ
theorem tK:Tu (TSl AE):=kE (kO tk_ob)
theorem tk_out:Tk 2 xZ:=tk2 tu_int tu_int
theorem oH:Tu (TSl xZ):=kE (kO tk_out)
theorem pX:Tk 5 RZ:=tk5 tK aT oH aT tu_int
theorem cI:∀ d,Tk 4 (TPatN d)
 | 0=>fun _ h=>h.elim
 | d+1=>tk4 tu_int tu_int tu_str (kE (kO (cI d)))
theorem tk_pat:Tk 4 wW:=fun a ⟨d,h⟩=>cI d a h
theorem eG:Tu (TSl wW):=kE (kO tk_pat)
theorem tk_node:Tk 4 eL:=tk4 tu_int tu_int aT eG
theorem bP:Tu (TSl eL):=kE (kO tk_node)
theorem tk_con:Tk 2 AF:=tk2 tu_str tu_int
theorem cJ:Tu sG:=kE (kO tk_con)
theorem cL:Tk 4 dD:=tk4 bP aT tu_int cJ
def inR (n l h:Int):Bool:=decide (l<=n)&&decide (n<=h)
def pY (n:Int):Bool:=inR n (-1000000000) 1000000000
def jM (b no:Int) (v:AV):Bool:=
 if (v.fld 0).num=1 then pY (v.fld 1).num else if (v.fld 0).num=2 then inR (v.fld 1).num 0 1 else if (v.fld 0).num=3 then decide ((v.fld 1).num=0)
 else if (v.fld 0).num=4 then inR (v.fld 1).num 0 (b-1) else if (v.fld 0).num=5 then inR (v.fld 1).num 0 (no-1) else false
def eW (c no:Int) (b:Int) (l:List AV):Bool:=decide ((l.length:Int)<=b)&&l.all (jM c no)
def eX (n:AV):Int:=
 if (n.fld 0).num∈[6,9,10,11,12,13,18,22] then 2 else if (n.fld 0).num=14 then (n.fld 2).els.length
 else if (n.fld 0).num∈[7,8,16,17,15,19,20,23,24,26] then 1 else 0
def dZ (ns:List AV) (n:Int):AV:=ns.getD n.toNat .top
def UR (ns:List AV) (b no:Int) (f:AV):Bool:=
 inR (f.fld 0).num 0 ((ns.length:Int)-1)&&eW b no 30 (f.fld 1).els&&eW b no (eX (dZ ns (f.fld 0).num)) (f.fld 2).els
def pC (ns:List AV) (b no:Int) (l:List AV):Bool:=decide (l.length<=40)&&l.all (UR ns b no)
def lQ (ns:List AV) (f:AV):Bool:=decide (((f.fld 2).els.length:Int)<eX (dZ ns (f.fld 0).num))
def kN (os:List AV) (k:Int):Bool:=inR k 0 ((os.length:Int)-1)&&decide (((os.getD k.toNat .top).fld 0).num=6)
def dL (os:List AV):Nat:=(os.filter fun o=>decide ((o.fld 0).num=6)).length
def AG (o:AV):Bool:=inR (o.fld 0).num 0 3&&pY (o.fld 1).num
end
end Go.Proofs.YtdipddlhenoglaaGreat
/-
 Whether something is so of all elements of a list: the functions that take it as a function.
-/
namespace Go.Abs
noncomputable section
theorem aHd {P:Program} {O:cH} {H:dG} {c:Code} {b:Nat} {fn:FuncId} {d:Tr AV} {s:Sto} {Q:Ex->Env->Prop} (I:Nat->Tr AV->Prop) (m:Nat->Nat) (f:I 0 d)
 (l:∀ i t,I i t->Wk P O H c ⟨b,none,fn,t,[],s,.no⟩ (FM (fun i e=>∃ t,e=⟨b,none,fn,t,[],s,.no⟩/\I i t) m i Q)):Wk P O H (.loop c) ⟨b,none,fn,d,[],s,.no⟩ Q:=
 aL (fun i e=>∃ t,e=⟨b,none,fn,t,[],s,.no⟩/\I i t) m 0 ⟨_,rfl,f⟩ fun i e ⟨t,k,h⟩=>by subst k;exact l i t h
end
end Go.Abs
namespace Go.Proofs.YtdipddlhenoglaaGreat
open Go.Abs Go Go.Abs.TryzF
noncomputable section
set_option maxRecDepth 10000
def PP (F:FuncId) (T:AV->Prop):Prop:=∀ {g:FuncId} {first cap:List AV} {D:AV->Prop},(∀ x,D x->T x)->∀ (p:AV->Bool),UnderE 0 (.func (.func g) first cap)->(∀ x,D x->Abs.Returns Tryz.prog g (first++[x]++cap) (.bool (p x)))->∀ {a:AV},TSl D a->Abs.Returns Tryz.prog F [a,.func (.func g) first cap] (.int .i64 (tL p a.els 0))
def PQ (F:FuncId) (T:AV->Prop):Prop:=∀ {g:FuncId} {first cap:List AV} {D:AV->Prop},(∀ x,D x->T x)->∀ (p:AV->Bool),UnderE 0 (.func (.func g) first cap)->(∀ x,D x->Abs.Returns Tryz.prog g (first++[x]++cap) (.bool (p x)))->∀ {a:AV},TSl D a->Abs.Returns Tryz.prog F [a,.func (.func g) first cap] (.bool (a.els.any p))
def LY (F:FuncId) (T:AV->Prop):Prop:=∀ {g:FuncId} {first cap:List AV} {D:AV->Prop},(∀ x,D x->T x)->∀ (p:AV->Bool),UnderE 0 (.func (.func g) first cap)->(∀ x,D x->Abs.Returns Tryz.prog g (first++[x]++cap) (.bool (p x)))->∀ {a:AV},TSl D a->Abs.Returns Tryz.prog F [a,.func (.func g) first cap] (.bool (a.els.all p))
def LZ (F:FuncId) (T:AV->Prop):Prop:=∀ {g:FuncId} {first cap:List AV} {D:AV->Prop},(∀ x,D x->T x)->∀ (p:AV->Bool),UnderE 0 (.func (.func g) first cap)->(∀ x,D x->Abs.Returns Tryz.prog g (first++[x]++cap) (.bool (p x)))->∀ x,D x->Abs.Returns Tryz.prog F ([]++[x]++[.pf (.func (.func g) first cap)]) (.bool (!p x))
theorem BK {A B C D p:Prop} (x:A) (y:B) (z:C) (w:D) (h:A->B->C->D->p:=by
 rename_i g first cap D
 intro N O P H v p U h a Q;obtain ⟨xs,e,M⟩:=Q;have T:=e.2;refine aF (L:=[aHt g first cap D fun x=>.bool (p x)]) (elist_cons (CU h) aE) aN (by kernel_rfl) N O P rfl rfl (aA (pD e fun x J=>(H x (v x (M x J))).1).und (aA U.und aD)) aV ?_;rw [e.els];simp +contextual +decide (maxSteps:=1000000) only [↓ wP,wQ,tf,Nat.reduceAdd,wS,reduceCtorEq,e.len];refine aHd (fun i t=>t.val 0=a/\t.val 1=.func (.func g) first cap/\t.val 7=.int .i64 (xs.length:Nat)/\t.val 8=.int .i64 (i:Nat)/\i<=xs.length/\tL p xs 0=tL p (xs.drop i) i) (fun i=>xs.length-i) ⟨by simp +decide only [↓ nR,yI,tT],by simp +decide only [↓ nR,yI,tT],by simp +decide only [↓ nR,yI,tT],by simp +decide only [↓ nR,yI,tT];rfl,Nat.zero_le _,rfl⟩ ?_;rintro i t ⟨o,q,u,G,S,c⟩
 rcases Nat.lt_or_ge i xs.length with k | E
 ·obtain ⟨x,b,J,X,R,f,V,I⟩:=bB (fun x h=>H.len (v x h)) M T k
  rw [R,tL]at c
  have l:=fun {d:Option AV}=>H.pf (v x b) (d:=d)
  cases m:p x with
  | true=>
    rw [m,if_pos rfl]at c;simp +contextual +decide (maxSteps:=1000000) only [↓ wP,wQ,tf,Nat.reduceAdd,wS,reduceCtorEq,o,q,u,G,e.idx,f,I,l,qA b,m,c]
  | false=>
    rw [m,if_neg (by decide)]at c;simp +contextual +decide (maxSteps:=1000000) only [↓ wP,wQ,tf,Nat.reduceAdd,wS,reduceCtorEq,o,q,u,G,e.idx,f,I,l,qA b,m,V];exact ⟨i+1,by show _-_<_-_;omega,_,rfl,by simp +decide only [↓ nR,yI,tT,o],by simp +decide only [↓ nR,yI,tT,q],by simp +decide only [↓ nR,yI,tT,u],by simp +decide only [↓ nR,yI,tT],k,c⟩
 ·obtain rfl:i=xs.length:=Nat.le_antisymm S E
  rw [List.drop_length,tL]at c
  simp +contextual +decide (maxSteps:=1000000) only [↓ wP,wQ,tf,Nat.reduceAdd,wS,reduceCtorEq,o,q,u,G,bH,c]):p:=h x y z w
theorem BL {A B C D E p:Prop} (x:A) (y:B) (z:C) (w:D) (v:E) (h:A->B->C->D->E->p:=by
 rename_i g first cap D
 intro l e f k u b p d h a c;have q:=l b p d h c;obtain ⟨xs,o,m⟩:=c;refine aF (elist_cons (bL q) aE) aN (by kernel_rfl) e f k rfl rfl (aA (pD o fun x h=>(u x (b x (m x h))).1).und (aA d.und aD)) aJ ?_;simp +contextual +decide (maxSteps:=1000000) only [↓ wP,wQ,tf,Nat.reduceAdd,wS,reduceCtorEq,eC]
 rw [EZ]):p:=h x y z w v
theorem EY {A B C D p:Prop} (x:A) (y:B) (z:C) (w:D) (h:A->B->C->D->p:=by
 rename_i g first cap D
 intro k l m f e p q h x b;refine aF (elist_cons (CU h) aE) aN (by kernel_rfl) k l m rfl rfl (aA (f x (e x b)).1.und (aA (kS q).und aD)) aJ ?_
 have o:=fun {s:Sto}=>qA (g:=g) (first:=first) (cap:=cap) (D:=D) (p:=fun x=>.bool (p x)) (L:=[]) (s:=s) b
 obtain ⟨_,cs,rfl,c,d⟩:=f x (e x b);have u:=Nat.le_of_eq ((Nat.zero_add _).trans c.symm)
 simp +contextual +decide (maxSteps:=1000000) only [↓ wP,wQ,tf,Nat.reduceAdd,wS,reduceCtorEq,o,c,d,eY c,u]):p:=h x y z w
theorem aHe {A B C p:Prop} (x:A) (y:B) (z:C) (h:A->B->C->p:=by
 rename_i g first cap D
 intro e f k d p m h x b;refine aF (elist_cons (CU h) aE) aN (by kernel_rfl) e f k rfl rfl (aA (tu_int x (d x b)).1.und (aA (kS m).und aD)) aJ ?_
 have l:=fun {s:Sto}=>qA (g:=g) (first:=first) (cap:=cap) (D:=D) (p:=fun x=>.bool (p x)) (L:=[]) (s:=s) b
 have c:=(tu_int x (d x b)).2
 simp +contextual +decide (maxSteps:=1000000) only [↓ wP,wQ,tf,Nat.reduceAdd,wS,reduceCtorEq,l,c]):p:=h x y z
section
variable {F C g:FuncId} {first cap:List AV} {a:AV} {r:Bool}
theorem aUf (c:UnderE 0 a) (o:UnderE 0 (.func (.func g) first cap)) (l:Abs.Returns Tryz.prog C [a,.func (.func F) [] [.pf (.func (.func g) first cap)]] (.bool r)):∀ args s,onL (.func (.func F) [] [.ptr 0 0 0]) (fun b=>b=a) (fun s=>s.get 0=some (aQ 0 [.func (.func g) first cap])) args s->bO Tryz.prog C args s (.ret (.bool r) none):=fun args s m=>by
 match args,m with
 | [b,f],⟨e,h,k⟩=>
   subst e;subst h;exact uT l pZ ⟨.und _ c.und,mS k rfl (by intro x d;simp at d;subst d;exact o.und),trivial⟩
theorem aUg {s:Sto} (c:s.get 0=some (aQ 0 [.func (.func g) first cap])):orcL [entB C (onL (.func (.func F) [] [.ptr 0 0 0]) (fun b=>b=a) fun s=>s.get 0=some (aQ 0 [.func (.func g) first cap])) fun _=>.bool r] C [a,.func (.func F) [] [.ptr 0 0 0]] s=some (.ret (.bool r) none):=jA ⟨rfl,rfl,c⟩
end
theorem yA {A B C D E F p:Prop} (x:A) (y:B) (z:C) (w:D) (v:E) (u:F) (h:A->B->C->D->E->F->p:=by
 rename_i g first cap D
 intro q G l m o J d p c h a e;have H:=q (first:=[]) (cap:=[.pf (.func (.func g) first cap)]) d (fun x=>!p x) (jD (fun _ h=>nomatch h) (by intro x k;simp at k;subst k;exact kS c)) (G d p c h) e;obtain ⟨xs,f,I⟩:=e
 have b:=pD f fun x h=>(J x (d x (I x h))).1
 refine aF (L:=[entB _ _ fun _=>.bool (a.els.any fun x=>!p x)]) (elist_cons (entB_ok (aUf b c H)) aE) aN (by kernel_rfl) l m o rfl rfl (aA b.und (aA c.und aD)) aJ ?_;simp +contextual +decide (maxSteps:=1000000) only [↓ wP,wQ,tf,Nat.reduceAdd,wS,reduceCtorEq,aUg,f.cell]
 rw [<-List.not_all_eq_any_not,Bool.not_not]):p:=h x y z w v u
theorem aHf:PP 334 tJ:=BK Tryz.func334 Tryz.ntmps334 Tryz.results334 @tk_val
theorem PR:PQ 299 tJ:=BL @aHf Tryz.func299 Tryz.ntmps299 Tryz.results299 @tk_val
theorem aMr:PP 366 TFr:=BK Tryz.func366 Tryz.ntmps366 Tryz.results366 @tk_fr
theorem US:PQ 335 TFr:=BL @aMr Tryz.func335 Tryz.ntmps335 Tryz.results335 @tk_fr
theorem aMs:PP 298 AE:=BK Tryz.func298 Tryz.ntmps298 Tryz.results298 @tk_ob
theorem UT:PQ 239 AE:=BL @aMs Tryz.func239 Tryz.ntmps239 Tryz.results239 @tk_ob
theorem aHg:PP 306 xZ:=BK Tryz.func306 Tryz.ntmps306 Tryz.results306 @tk_out
theorem PT:PQ 248 xZ:=BL @aHg Tryz.func248 Tryz.ntmps248 Tryz.results248 @tk_out
theorem aHh:PP 116 dA:=BK Tryz.func116 Tryz.ntmps116 Tryz.results116 @tu_int
theorem BM:PQ 72 dA:=BL @aHh Tryz.func72 Tryz.ntmps72 Tryz.results72 @tu_int
theorem aHi:PP 328 AF:=BK Tryz.func328 Tryz.ntmps328 Tryz.results328 @tk_con
theorem PU:PQ 286 AF:=BL @aHi Tryz.func286 Tryz.ntmps286 Tryz.results286 @tk_con
theorem aBm:PP 330 eL:=BK Tryz.func330 Tryz.ntmps330 Tryz.results330 @tk_node
theorem MB:PQ 289 eL:=BL @aBm Tryz.func289 Tryz.ntmps289 Tryz.results289 @tk_node
theorem aHj:PP 365 wW:=BK Tryz.func365 Tryz.ntmps365 Tryz.results365 @tk_pat
theorem PV:PQ 332 wW:=BL @aHj Tryz.func332 Tryz.ntmps332 Tryz.results332 @tk_pat
theorem aHk:LZ 287 AF:=EY Tryz.func287 Tryz.ntmps287 Tryz.results287 @tk_con
theorem aMt:LY 230 AF:=yA @PU @aHk Tryz.func230 Tryz.ntmps230 Tryz.results230 @tk_con
theorem aBn:LZ 290 eL:=EY Tryz.func290 Tryz.ntmps290 Tryz.results290 @tk_node
theorem aHl:LY 235 eL:=yA @MB @aBn Tryz.func235 Tryz.ntmps235 Tryz.results235 @tk_node
theorem aHm:LZ 333 wW:=EY Tryz.func333 Tryz.ntmps333 Tryz.results333 @tk_pat
theorem XY:LY 296 wW:=yA @PV @aHm Tryz.func296 Tryz.ntmps296 Tryz.results296 @tk_pat
theorem aHn:LZ 297 dA:=aHe Tryz.func297 Tryz.ntmps297 Tryz.results297
theorem aMu:LY 237 dA:=yA @BM @aHn Tryz.func237 Tryz.ntmps237 Tryz.results237 @tu_int
theorem aHo:LZ 300 tJ:=EY Tryz.func300 Tryz.ntmps300 Tryz.results300 @tk_val
theorem aMv:LY 241 tJ:=yA @PR @aHo Tryz.func241 Tryz.ntmps241 Tryz.results241 @tk_val
theorem aMw:LZ 336 TFr:=EY Tryz.func336 Tryz.ntmps336 Tryz.results336 @tk_fr
theorem aHp:LY 301 TFr:=yA @US @aMw Tryz.func301 Tryz.ntmps301 Tryz.results301 @tk_fr
theorem aMx:LZ 240 AE:=EY Tryz.func240 Tryz.ntmps240 Tryz.results240 @tk_ob
theorem aQs:LY 182 AE:=yA @UT @aMx Tryz.func182 Tryz.ntmps182 Tryz.results182 @tk_ob
theorem aHq:LZ 249 xZ:=EY Tryz.func249 Tryz.ntmps249 Tryz.results249 @tk_out
theorem aMy:LY 185 xZ:=yA @PT @aHq Tryz.func185 Tryz.ntmps185 Tryz.results185 @tk_out
theorem aHr:LZ 304 dA:=aHe Tryz.func304 Tryz.ntmps304 Tryz.results304
theorem aMz:LY 245 dA:=yA @BM @aHr Tryz.func245 Tryz.ntmps245 Tryz.results245 @tu_int
end
end Go.Proofs.YtdipddlhenoglaaGreat
