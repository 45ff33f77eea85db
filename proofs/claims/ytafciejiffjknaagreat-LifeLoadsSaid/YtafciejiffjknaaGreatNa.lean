/-.-/
import Derived.Test.YtafciejiffjknaaGreatEy
import Derived.Test.YtafciejiffjknaaGreatTf
namespace Go
abbrev bq:=@Nat.le_antisymm
abbrev bu:=@Bool.and_false
abbrev bd:=@List.getD_cons_zero
abbrev eg:=@List.getD_cons_succ
end Go
namespace Go.Abs
noncomputable section
theorem wS:type_of% (And.intro @ne_eq.{1} (And.intro @cI.{1} (And.intro @cI.{0} (And.intro @cg.{1} (And.intro @cg.{0} (And.intro @bBs (And.intro @wgu (And.intro @DS (And.intro @jZ (And.intro @θ (And.intro @ι (And.intro @bu (And.intro @ax (And.intro @ew (@e9))))))))))))))):=And.intro @ne_eq.{1} (And.intro @cI.{1} (And.intro @cI.{0} (And.intro @cg.{1} (And.intro @cg.{0} (And.intro @bBs (And.intro @wgu (And.intro @DS (And.intro @jZ (And.intro @θ (And.intro @ι (And.intro @bu (And.intro @ax (And.intro @ew (@e9))))))))))))))
theorem wT:type_of% (And.intro @cI.{1} (And.intro @cI.{0} (And.intro @cg.{1} (And.intro @cg.{0} (And.intro @ew (And.intro @e9 (And.intro @θ (And.intro @ι (And.intro @bu (And.intro @ax (And.intro @d2 (And.intro @be (And.intro @gd (And.intro @ff (And.intro @fx (And.intro @Bool.or_true (And.intro @bd.{0} (@eg.{0})))))))))))))))))):=And.intro @cI.{1} (And.intro @cI.{0} (And.intro @cg.{1} (And.intro @cg.{0} (And.intro @ew (And.intro @e9 (And.intro @θ (And.intro @ι (And.intro @bu (And.intro @ax (And.intro @d2 (And.intro @be (And.intro @gd (And.intro @ff (And.intro @fx (And.intro @Bool.or_true (And.intro @bd.{0} (@eg.{0})))))))))))))))))
end
section
open Go.Abs.TryzF Go.Proofs.Tryz
theorem QU {a p q:Prop} (h:a->p=q:=by (intro z;conv=>(lhs;simp +contextual +decide (maxSteps:=9^9) only [↓ wP,wQ,tf,Nat.reduceAdd,Nat.reduceMul,wS,reduceCtorEq,z]))):a->p=q:=h
theorem QV{a p:Prop}(h:a->p:=by(intro z;simp+contextual+decide(maxSteps:=9^9)only[↓wP,wQ,tf,Nat.reduceAdd,Nat.reduceMul,wS,reduceCtorEq,z])):a->p:=h
theorem ap0 {p q:Prop} (g:q) (h:p=q:=by conv=>(lhs;simp +contextual +decide (maxSteps:=9^9) only [↓ wP,wQ,tf,Nat.reduceAdd,Nat.reduceMul,wS,reduceCtorEq])):p:=h.mpr g
theorem az0{p:Prop}(h:p:=by simp+contextual+decide(maxSteps:=9^9)only[↓wP,wQ,tf,Nat.reduceAdd,Nat.reduceMul,wS,reduceCtorEq]):p:=h
theorem ap1{a0 p q:Prop}(b:a0)(g:q)(h:a0->p=q:=by exact QU):p:=(h b).mpr g
theorem ap2{a0 a1 p q:Prop}(b:a0)(c:a1)(g:q)(h:a0/\a1->p=q:=by exact QU):p:=(h ⟨b,c⟩).mpr g
theorem UD{a0 a1 a2 p q:Prop}(b:a0)(c:a1)(d:a2)(g:q)(h:a0/\a1/\a2->p=q:=by exact QU):p:=(h ⟨b,c,d⟩).mpr g
theorem ap4{a0 a1 a2 a3 p q:Prop}(b:a0)(c:a1)(d:a2)(e:a3)(g:q)(h:a0/\a1/\a2/\a3->p=q:=by exact QU):p:=(h ⟨b,c,d,e⟩).mpr g
theorem ap5{a0 a1 a2 a3 a4 p q:Prop}(b:a0)(c:a1)(d:a2)(e:a3)(f:a4)(g:q)(h:a0/\a1/\a2/\a3/\a4->p=q:=by exact QU):p:=(h ⟨b,c,d,e,f⟩).mpr g
theorem ap6{a0 a1 a2 a3 a4 a5 p q:Prop}(b:a0)(c:a1)(d:a2)(e:a3)(f:a4)(k:a5)(g:q)(h:a0/\a1/\a2/\a3/\a4/\a5->p=q:=by exact QU):p:=(h ⟨b,c,d,e,f,k⟩).mpr g
theorem ap7{a0 a1 a2 a3 a4 a5 a6 p q:Prop}(b:a0)(c:a1)(d:a2)(e:a3)(f:a4)(k:a5)(l:a6)(g:q)(h:a0/\a1/\a2/\a3/\a4/\a5/\a6->p=q:=by exact QU):p:=(h ⟨b,c,d,e,f,k,l⟩).mpr g
theorem ap8{a0 a1 a2 a3 a4 a5 a6 a7 p q:Prop}(b:a0)(c:a1)(d:a2)(e:a3)(f:a4)(k:a5)(l:a6)(m:a7)(g:q)(h:a0/\a1/\a2/\a3/\a4/\a5/\a6/\a7->p=q:=by exact QU):p:=(h ⟨b,c,d,e,f,k,l,m⟩).mpr g
theorem ap9{a0 a1 a2 a3 a4 a5 a6 a7 a8 p q:Prop}(b:a0)(c:a1)(d:a2)(e:a3)(f:a4)(k:a5)(l:a6)(m:a7)(o:a8)(g:q)(h:a0/\a1/\a2/\a3/\a4/\a5/\a6/\a7/\a8->p=q:=by exact QU):p:=(h ⟨b,c,d,e,f,k,l,m,o⟩).mpr g
theorem LU{a0 a1 a2 a3 a4 a5 a6 a7 a8 a9 p q:Prop}(b:a0)(c:a1)(d:a2)(e:a3)(f:a4)(k:a5)(l:a6)(m:a7)(o:a8)(u:a9)(g:q)(h:a0/\a1/\a2/\a3/\a4/\a5/\a6/\a7/\a8/\a9->p=q:=by exact QU):p:=(h ⟨b,c,d,e,f,k,l,m,o,u⟩).mpr g
theorem aEn{a0 a1 a2 a3 a4 a5 a6 a7 a8 a9 mI p q:Prop}(c:a0)(d:a1)(e:a2)(f:a3)(k:a4)(l:a5)(m:a6)(o:a7)(u:a8)(v:a9)(b:mI)(g:q)(h:a0/\a1/\a2/\a3/\a4/\a5/\a6/\a7/\a8/\a9/\mI->p=q:=by exact QU):p:=(h ⟨c,d,e,f,k,l,m,o,u,v,b⟩).mpr g
theorem GA{a0 a1 a2 a3 a4 a5 a6 a7 a8 a9 mI oK p q:Prop}(d:a0)(e:a1)(f:a2)(k:a3)(l:a4)(m:a5)(o:a6)(u:a7)(v:a8)(w:a9)(b:mI)(c:oK)(g:q)(h:a0/\a1/\a2/\a3/\a4/\a5/\a6/\a7/\a8/\a9/\mI/\oK->p=q:=by exact QU):p:=(h ⟨d,e,f,k,l,m,o,u,v,w,b,c⟩).mpr g
theorem UE{a0 a1 a2 a3 a4 a5 a6 a7 a8 a9 mI oK qO p q:Prop}(e:a0)(f:a1)(k:a2)(l:a3)(m:a4)(o:a5)(u:a6)(v:a7)(w:a8)(y:a9)(b:mI)(c:oK)(d:qO)(g:q)(h:a0/\a1/\a2/\a3/\a4/\a5/\a6/\a7/\a8/\a9/\mI/\oK/\qO->p=q:=by exact QU):p:=(h ⟨e,f,k,l,m,o,u,v,w,y,b,c,d⟩).mpr g
theorem UF{a0 a1 a2 a3 a4 a5 a6 a7 a8 a9 mI oK qO tO p q:Prop}(f:a0)(k:a1)(l:a2)(m:a3)(o:a4)(u:a5)(v:a6)(w:a7)(y:a8)(A:a9)(b:mI)(c:oK)(d:qO)(e:tO)(g:q)(h:a0/\a1/\a2/\a3/\a4/\a5/\a6/\a7/\a8/\a9/\mI/\oK/\qO/\tO->p=q:=by exact QU):p:=(h ⟨f,k,l,m,o,u,v,w,y,A,b,c,d,e⟩).mpr g
theorem YG{a0 a1 a2 a3 a4 a5 a6 a7 a8 a9 mI oK qO tO xJ p q:Prop}(k:a0)(l:a1)(m:a2)(o:a3)(u:a4)(v:a5)(w:a6)(y:a7)(A:a8)(B:a9)(b:mI)(c:oK)(d:qO)(e:tO)(f:xJ)(g:q)(h:a0/\a1/\a2/\a3/\a4/\a5/\a6/\a7/\a8/\a9/\mI/\oK/\qO/\tO/\xJ->p=q:=by exact QU):p:=(h ⟨k,l,m,o,u,v,w,y,A,B,b,c,d,e,f⟩).mpr g
theorem aMn{a0 a1 a2 a3 a4 a5 a6 a7 a8 a9 mI oK qO tO xJ CK p q:Prop}(l:a0)(m:a1)(o:a2)(u:a3)(v:a4)(w:a5)(y:a6)(A:a7)(B:a8)(D:a9)(b:mI)(c:oK)(d:qO)(e:tO)(f:xJ)(k:CK)(g:q)(h:a0/\a1/\a2/\a3/\a4/\a5/\a6/\a7/\a8/\a9/\mI/\oK/\qO/\tO/\xJ/\CK->p=q:=by exact QU):p:=(h ⟨l,m,o,u,v,w,y,A,B,D,b,c,d,e,f,k⟩).mpr g
theorem aTj{a0 a1 a2 a3 a4 a5 a6 a7 a8 a9 mI oK qO tO xJ CK JC p q:Prop}(m:a0)(o:a1)(u:a2)(v:a3)(w:a4)(y:a5)(A:a6)(B:a7)(D:a8)(E:a9)(b:mI)(c:oK)(d:qO)(e:tO)(f:xJ)(k:CK)(l:JC)(g:q)(h:a0/\a1/\a2/\a3/\a4/\a5/\a6/\a7/\a8/\a9/\mI/\oK/\qO/\tO/\xJ/\CK/\JC->p=q:=by exact QU):p:=(h ⟨m,o,u,v,w,y,A,B,D,E,b,c,d,e,f,k,l⟩).mpr g
theorem aEo{a0 a1 a2 a3 a4 a5 a6 a7 a8 a9 mI oK qO tO xJ CK JC WY p q:Prop}(o:a0)(u:a1)(v:a2)(w:a3)(y:a4)(A:a5)(B:a6)(D:a7)(E:a8)(G:a9)(b:mI)(c:oK)(d:qO)(e:tO)(f:xJ)(k:CK)(l:JC)(m:WY)(g:q)(h:a0/\a1/\a2/\a3/\a4/\a5/\a6/\a7/\a8/\a9/\mI/\oK/\qO/\tO/\xJ/\CK/\JC/\WY->p=q:=by exact QU):p:=(h ⟨o,u,v,w,y,A,B,D,E,G,b,c,d,e,f,k,l,m⟩).mpr g
theorem a1d{a0 a1 a2 a3 a4 a5 a6 a7 a8 a9 mI oK qO tO xJ CK JC WY a18 p q:Prop}(u:a0)(v:a1)(w:a2)(y:a3)(A:a4)(B:a5)(D:a6)(E:a7)(G:a8)(H:a9)(b:mI)(c:oK)(d:qO)(e:tO)(f:xJ)(k:CK)(l:JC)(m:WY)(o:a18)(g:q)(h:a0/\a1/\a2/\a3/\a4/\a5/\a6/\a7/\a8/\a9/\mI/\oK/\qO/\tO/\xJ/\CK/\JC/\WY/\a18->p=q:=by exact QU):p:=(h ⟨u,v,w,y,A,B,D,E,G,H,b,c,d,e,f,k,l,m,o⟩).mpr g
theorem aTk{a0 a1 a2 a3 a4 a5 a6 a7 a8 a9 mI oK qO tO xJ CK JC WY a18 a19 p q:Prop}(v:a0)(w:a1)(y:a2)(A:a3)(B:a4)(D:a5)(E:a6)(G:a7)(H:a8)(J:a9)(b:mI)(c:oK)(d:qO)(e:tO)(f:xJ)(k:CK)(l:JC)(m:WY)(o:a18)(u:a19)(g:q)(h:a0/\a1/\a2/\a3/\a4/\a5/\a6/\a7/\a8/\a9/\mI/\oK/\qO/\tO/\xJ/\CK/\JC/\WY/\a18/\a19->p=q:=by exact QU):p:=(h ⟨v,w,y,A,B,D,E,G,H,J,b,c,d,e,f,k,l,m,o,u⟩).mpr g
theorem zM{a0 p:Prop}(b:a0)(h:a0->p:=by exact QV):p:=h b
theorem az2{a0 a1 p:Prop}(b:a0)(c:a1)(h:a0/\a1->p:=by exact QV):p:=h ⟨b,c⟩
theorem az3{a0 a1 a2 p:Prop}(b:a0)(c:a1)(d:a2)(h:a0/\a1/\a2->p:=by exact QV):p:=h ⟨b,c,d⟩
theorem az4{a0 a1 a2 a3 p:Prop}(b:a0)(c:a1)(d:a2)(e:a3)(h:a0/\a1/\a2/\a3->p:=by exact QV):p:=h ⟨b,c,d,e⟩
theorem az5{a0 a1 a2 a3 a4 p:Prop}(b:a0)(c:a1)(d:a2)(e:a3)(f:a4)(h:a0/\a1/\a2/\a3/\a4->p:=by exact QV):p:=h ⟨b,c,d,e,f⟩
theorem az6{a0 a1 a2 a3 a4 a5 p:Prop}(b:a0)(c:a1)(d:a2)(e:a3)(f:a4)(k:a5)(h:a0/\a1/\a2/\a3/\a4/\a5->p:=by exact QV):p:=h ⟨b,c,d,e,f,k⟩
theorem az7{a0 a1 a2 a3 a4 a5 a6 p:Prop}(b:a0)(c:a1)(d:a2)(e:a3)(f:a4)(k:a5)(l:a6)(h:a0/\a1/\a2/\a3/\a4/\a5/\a6->p:=by exact QV):p:=h ⟨b,c,d,e,f,k,l⟩
theorem az8{a0 a1 a2 a3 a4 a5 a6 a7 p:Prop}(b:a0)(c:a1)(d:a2)(e:a3)(f:a4)(k:a5)(l:a6)(m:a7)(h:a0/\a1/\a2/\a3/\a4/\a5/\a6/\a7->p:=by exact QV):p:=h ⟨b,c,d,e,f,k,l,m⟩
theorem az9{a0 a1 a2 a3 a4 a5 a6 a7 a8 p:Prop}(b:a0)(c:a1)(d:a2)(e:a3)(f:a4)(k:a5)(l:a6)(m:a7)(o:a8)(h:a0/\a1/\a2/\a3/\a4/\a5/\a6/\a7/\a8->p:=by exact QV):p:=h ⟨b,c,d,e,f,k,l,m,o⟩
theorem UG{a0 a1 a2 a3 a4 a5 a6 a7 a8 a9 p:Prop}(b:a0)(c:a1)(d:a2)(e:a3)(f:a4)(k:a5)(l:a6)(m:a7)(o:a8)(q:a9)(h:a0/\a1/\a2/\a3/\a4/\a5/\a6/\a7/\a8/\a9->p:=by exact QV):p:=h ⟨b,c,d,e,f,k,l,m,o,q⟩
theorem UH{a0 a1 a2 a3 a4 a5 a6 a7 a8 a9 mI p:Prop}(c:a0)(d:a1)(e:a2)(f:a3)(k:a4)(l:a5)(m:a6)(o:a7)(q:a8)(u:a9)(b:mI)(h:a0/\a1/\a2/\a3/\a4/\a5/\a6/\a7/\a8/\a9/\mI->p:=by exact QV):p:=h ⟨c,d,e,f,k,l,m,o,q,u,b⟩
theorem GB{a0 a1 a2 a3 a4 a5 a6 a7 a8 a9 mI oK p:Prop}(d:a0)(e:a1)(f:a2)(k:a3)(l:a4)(m:a5)(o:a6)(q:a7)(u:a8)(v:a9)(b:mI)(c:oK)(h:a0/\a1/\a2/\a3/\a4/\a5/\a6/\a7/\a8/\a9/\mI/\oK->p:=by exact QV):p:=h ⟨d,e,f,k,l,m,o,q,u,v,b,c⟩
theorem a7c{a0 a1 a2 a3 a4 a5 a6 a7 a8 a9 mI oK qO p:Prop}(e:a0)(f:a1)(k:a2)(l:a3)(m:a4)(o:a5)(q:a6)(u:a7)(v:a8)(w:a9)(b:mI)(c:oK)(d:qO)(h:a0/\a1/\a2/\a3/\a4/\a5/\a6/\a7/\a8/\a9/\mI/\oK/\qO->p:=by exact QV):p:=h ⟨e,f,k,l,m,o,q,u,v,w,b,c,d⟩
theorem UI{a0 a1 a2 a3 a4 a5 a6 a7 a8 a9 mI oK qO tO p:Prop}(f:a0)(k:a1)(l:a2)(m:a3)(o:a4)(q:a5)(u:a6)(v:a7)(w:a8)(y:a9)(b:mI)(c:oK)(d:qO)(e:tO)(h:a0/\a1/\a2/\a3/\a4/\a5/\a6/\a7/\a8/\a9/\mI/\oK/\qO/\tO->p:=by exact QV):p:=h ⟨f,k,l,m,o,q,u,v,w,y,b,c,d,e⟩
theorem aTm{a0 a1 a2 a3 a4 a5 a6 a7 a8 a9 mI oK qO tO xJ p:Prop}(k:a0)(l:a1)(m:a2)(o:a3)(q:a4)(u:a5)(v:a6)(w:a7)(y:a8)(A:a9)(b:mI)(c:oK)(d:qO)(e:tO)(f:xJ)(h:a0/\a1/\a2/\a3/\a4/\a5/\a6/\a7/\a8/\a9/\mI/\oK/\qO/\tO/\xJ->p:=by exact QV):p:=h ⟨k,l,m,o,q,u,v,w,y,A,b,c,d,e,f⟩
theorem aTn{a0 a1 a2 a3 a4 a5 a6 a7 a8 a9 mI oK qO tO xJ CK p:Prop}(l:a0)(m:a1)(o:a2)(q:a3)(u:a4)(v:a5)(w:a6)(y:a7)(A:a8)(B:a9)(b:mI)(c:oK)(d:qO)(e:tO)(f:xJ)(k:CK)(h:a0/\a1/\a2/\a3/\a4/\a5/\a6/\a7/\a8/\a9/\mI/\oK/\qO/\tO/\xJ/\CK->p:=by exact QV):p:=h ⟨l,m,o,q,u,v,w,y,A,B,b,c,d,e,f,k⟩
theorem a1e{a0 a1 a2 a3 a4 a5 a6 a7 a8 a9 mI oK qO tO xJ CK JC p:Prop}(m:a0)(o:a1)(q:a2)(u:a3)(v:a4)(w:a5)(y:a6)(A:a7)(B:a8)(D:a9)(b:mI)(c:oK)(d:qO)(e:tO)(f:xJ)(k:CK)(l:JC)(h:a0/\a1/\a2/\a3/\a4/\a5/\a6/\a7/\a8/\a9/\mI/\oK/\qO/\tO/\xJ/\CK/\JC->p:=by exact QV):p:=h ⟨m,o,q,u,v,w,y,A,B,D,b,c,d,e,f,k,l⟩
theorem aTo{a0 a1 a2 a3 a4 a5 a6 a7 a8 a9 mI oK qO tO xJ CK JC WY p:Prop}(o:a0)(q:a1)(u:a2)(v:a3)(w:a4)(y:a5)(A:a6)(B:a7)(D:a8)(E:a9)(b:mI)(c:oK)(d:qO)(e:tO)(f:xJ)(k:CK)(l:JC)(m:WY)(h:a0/\a1/\a2/\a3/\a4/\a5/\a6/\a7/\a8/\a9/\mI/\oK/\qO/\tO/\xJ/\CK/\JC/\WY->p:=by exact QV):p:=h ⟨o,q,u,v,w,y,A,B,D,E,b,c,d,e,f,k,l,m⟩
theorem a1f{a0 a1 a2 a3 a4 a5 a6 a7 a8 a9 mI oK qO tO xJ CK JC WY a18 p:Prop}(q:a0)(u:a1)(v:a2)(w:a3)(y:a4)(A:a5)(B:a6)(D:a7)(E:a8)(G:a9)(b:mI)(c:oK)(d:qO)(e:tO)(f:xJ)(k:CK)(l:JC)(m:WY)(o:a18)(h:a0/\a1/\a2/\a3/\a4/\a5/\a6/\a7/\a8/\a9/\mI/\oK/\qO/\tO/\xJ/\CK/\JC/\WY/\a18->p:=by exact QV):p:=h ⟨q,u,v,w,y,A,B,D,E,G,b,c,d,e,f,k,l,m,o⟩
theorem a7d{a0 a1 a2 a3 a4 a5 a6 a7 a8 a9 mI oK qO tO xJ CK JC WY a18 a19 p:Prop}(u:a0)(v:a1)(w:a2)(y:a3)(A:a4)(B:a5)(D:a6)(E:a7)(G:a8)(H:a9)(b:mI)(c:oK)(d:qO)(e:tO)(f:xJ)(k:CK)(l:JC)(m:WY)(o:a18)(q:a19)(h:a0/\a1/\a2/\a3/\a4/\a5/\a6/\a7/\a8/\a9/\mI/\oK/\qO/\tO/\xJ/\CK/\JC/\WY/\a18/\a19->p:=by exact QV):p:=h ⟨u,v,w,y,A,B,D,E,G,H,b,c,d,e,f,k,l,m,o,q⟩
theorem aS{p:Prop}(h:p:=by(simp+decide only[↓aE,dP,cZ])):p:=h
theorem bR{a0 p:Prop}(b:a0)(h:a0->p:=by(intro z;simp+decide only[↓aE,dP,cZ,z])):p:=h b
theorem av2{a0 a1 p:Prop}(b:a0)(c:a1)(h:a0/\a1->p:=by(intro z;simp+decide only[↓aE,dP,cZ,z])):p:=h ⟨b,c⟩
theorem xZ{p:Prop}(h:p:=by(simp+decide only[↓aE,xC,cZ,ne_eq])):p:=h
theorem ag1{a0 p:Prop}(b:a0)(h:a0->p:=by(intro z;simp+decide only[↓aE,xC,cZ,ne_eq,z])):p:=h b
theorem BN{a0 a1 p:Prop}(b:a0)(c:a1)(h:a0/\a1->p:=by(intro z;simp+decide only[↓aE,xC,cZ,ne_eq,z])):p:=h ⟨b,c⟩
theorem oS{p:Prop}(h:p:=by(simp+decide only[↓aE,dP,cZ];rfl)):p:=h
theorem aO{p:Prop}(h:p:=by omega):p:=h
theorem Sl.lX{a:AV}{xs:List AV}(h:Sl a xs)(s:Sto)(d:Option ORes):DK (some 1) s a d=some (.val (.int .i64 (xs.length:Nat))):=h.len
theorem Sl.iX{a:AV}{xs:List AV}(h:Sl a xs)(P:Program)(t:TypeId)(v:AV):cM P t a v=fA (qU P t) xs v (gA P t a v):=h.idx
theorem Sl.sX{a:AV}{xs:List AV}(h:Sl a xs)(Y:Nat->Prop):gC Y a:=h.stab
end
end Go.Abs
namespace Go.Proofs.YtafciejiffjknaaGreat
open Go.Abs Go
noncomputable section
set_option maxRecDepth 10000
abbrev lY:=TSl dR
abbrev UJ:=T2 dR dR
abbrev yA:=TSl UJ
abbrev TFr:=T3 dR yA yA
abbrev PK:=TSl TFr
abbrev PJ:=T4 dR dR yA PK
abbrev qD:=T2 dR dR
abbrev TWd:=T5 (TSl PJ) lY (TSl qD) lY dR
def TPatN:Nat->AV->Prop|0,_=>False|d+1,a=>T4 dR dR nR (TSl (TPatN d)) a
def BO(a:AV):Prop:=∃d,TPatN d a
abbrev gM:=T4 dR dR lY (TSl BO)
abbrev GC:=T2 nR dR
abbrev wZ:=TSl GC
abbrev fR:=T4 (TSl gM) lY dR wZ
theorem TSl.mono{A B:AV->Prop}(h:∀a,A a->B a){a:AV}(d:TSl A a):TSl B a:=by obtain⟨xs,b,c⟩:=d;exact⟨xs,b,λx e=>h x (c x e)⟩
theorem ib:∀(d:Nat)(a:AV),TPatN d a->TPatN (d+1) a|0,_,h=>h.elim|d+1,_,⟨x,y,z,u,e,b,c,f,k⟩=>⟨x,y,z,u,e,b,c,f,TSl.mono (ib d) k⟩
theorem TPatN.le{d b:Nat}(c:d<=b){a:AV}(h:TPatN d a):TPatN b a:=by induction c with|refl=>exact h|step _ e=>exact ib _ _ e
theorem aV:Tu lY:=jM (BP tu_int)
theorem tk_val:Tk 2 UJ:=tk2 tu_int tu_int
theorem bU:Tu yA:=jM (lK tk_val)
theorem tk_fr:Tk 3 TFr:=tk3 tu_int bU bU
theorem nQ:Tu PK:=jM (lK tk_fr)
theorem tk_ob:Tk 4 PJ:=tk4 tu_int tu_int bU nQ
theorem pK:Tu (TSl PJ):=jM (lK tk_ob)
theorem tk_out:Tk 2 qD:=tk2 tu_int tu_int
theorem gP:Tu (TSl qD):=jM (lK tk_out)
theorem xA:Tk 5 TWd:=tk5 pK aV gP aV tu_int
theorem dO:∀d,Tk 4 (TPatN d)|0=>λ_ h=>h.elim|d+1=>tk4 tu_int tu_int tu_str (jM (lK (dO d)))
theorem tk_pat:Tk 4 BO:=λa ⟨d,h⟩=>dO d a h
theorem iK:Tu (TSl BO):=jM (lK tk_pat)
theorem tk_node:Tk 4 gM:=tk4 tu_int tu_int aV iK
theorem dU:Tu (TSl gM):=jM (lK tk_node)
theorem tk_con:Tk 2 GC:=tk2 tu_str tu_int
theorem dZ:Tu wZ:=jM (lK tk_con)
theorem eA:Tk 4 fR:=tk4 dU aV tu_int dZ
def inR(n l h:Int):Bool:=decide (l<=n)&&decide (n<=h)
def tY(n:Int):Bool:=inR n (-1000000000) 1000000000
def tA(b no:Int)(v:AV):Bool:=if(v.fld 0).num=1 then tY (v.fld 1).num else if(v.fld 0).num=2 then inR (v.fld 1).num 0 1 else if(v.fld 0).num=3 then decide ((v.fld 1).num=0)else if(v.fld 0).num=4 then inR (v.fld 1).num 0 (b-1)else if(v.fld 0).num=5 then inR (v.fld 1).num 0 (no-1)else false
def iE(c no:Int)(b:Int)(l:List AV):Bool:=decide ((l.length:Int)<=b)&&l.all (tA c no)
def gN(n:AV):Int:=if(n.fld 0).num∈[6,9,10,11,12,13,18,22]then 2 else if(n.fld 0).num=14 then(n.fld 2).els.length else if(n.fld 0).num∈[7,8,16,17,15,19,20,23,24,26]then 1 else 0
def gG(ns:List AV)(n:Int):AV:=ns.getD n.toNat .top
def frR(ns:List AV)(b no:Int)(f:AV):Bool:=inR (f.fld 0).num 0 ((ns.length:Int)-1)&&iE b no 30 (f.fld 1).els&&iE b no (gN (gG ns (f.fld 0).num)) (f.fld 2).els
def tZ(ns:List AV)(b no:Int)(l:List AV):Bool:=decide (l.length<=40)&&l.all (frR ns b no)
def oT(ns:List AV)(f:AV):Bool:=decide (((f.fld 2).els.length:Int)<gN (gG ns (f.fld 0).num))
def pL(os:List AV)(k:Int):Bool:=inR k 0 ((os.length:Int)-1)&&decide (((os.getD k.toNat .top).fld 0).num=6)
def eW(os:List AV):Nat:=(os.filter λo=>decide ((o.fld 0).num=6)).length
def GD(o:AV):Bool:=inR (o.fld 0).num 0 3&&tY (o.fld 1).num
end
end Go.Proofs.YtafciejiffjknaaGreat
namespace Go.Abs
noncomputable section
theorem aTq{P:Program}{O:Orc}{H:eY}{c:Code}{nt:Nat}{fn:FuncId}{b:Tr AV}{s:Sto}{Q:Ex->Env->Prop}(I:Nat->Tr AV->Prop)(m:Nat->Nat)(d:I 0 b)(k:∀i t,I i t->Wk P O H c ⟨nt,none,fn,t,[],s,.no⟩ (IA (λi e=>∃t,e=⟨nt,none,fn,t,[],s,.no⟩/\I i t) m i Q)):Wk P O H (.loop c) ⟨nt,none,fn,b,[],s,.no⟩ Q:=aN (λi e=>∃t,e=⟨nt,none,fn,t,[],s,.no⟩/\I i t) m 0 ⟨_,rfl,d⟩ λi e ⟨t,f,h⟩=>by subst f;exact k i t h
end
end Go.Abs
namespace Go.Proofs.YtafciejiffjknaaGreat
open Go.Abs Go Go.Abs.TryzF Tryz
noncomputable section
set_option maxRecDepth 10000
def LV(F:FuncId)(T:AV->Prop):Prop:=∀{g:FuncId}{first cap:List AV}{D:AV->Prop},(∀x,D x->T x)->∀(p:AV->Bool),UnderE 0 (.func (.func g) first cap)->(∀x,D x->Abs.Returns prog g (first++[x]++cap) (.bool (p x)))->∀{a:AV},TSl D a->Abs.Returns prog F [a,.func (.func g) first cap] (.int .i64 (yD p a.els 0))
def LW(F:FuncId)(T:AV->Prop):Prop:=∀{g:FuncId}{first cap:List AV}{D:AV->Prop},(∀x,D x->T x)->∀(p:AV->Bool),UnderE 0 (.func (.func g) first cap)->(∀x,D x->Abs.Returns prog g (first++[x]++cap) (.bool (p x)))->∀{a:AV},TSl D a->Abs.Returns prog F [a,.func (.func g) first cap] (.bool (a.els.any p))
def IO(F:FuncId)(T:AV->Prop):Prop:=∀{g:FuncId}{first cap:List AV}{D:AV->Prop},(∀x,D x->T x)->∀(p:AV->Bool),UnderE 0 (.func (.func g) first cap)->(∀x,D x->Abs.Returns prog g (first++[x]++cap) (.bool (p x)))->∀{a:AV},TSl D a->Abs.Returns prog F [a,.func (.func g) first cap] (.bool (a.els.all p))
def IP(F:FuncId)(T:AV->Prop):Prop:=∀{g:FuncId}{first cap:List AV}{D:AV->Prop},(∀x,D x->T x)->∀(p:AV->Bool),UnderE 0 (.func (.func g) first cap)->(∀x,D x->Abs.Returns prog g (first++[x]++cap) (.bool (p x)))->∀x,D x->Abs.Returns prog F ([]++[x]++[.pf (.func (.func g) first cap)]) (.bool (!p x))
theorem yB{A B C D p:Prop}(x:A)(y:B)(z:C)(w:D)(h:A->B->C->D->p:=by rename_i g first cap D;intro O P Q H v p V h a R;obtain⟨xs,e,N⟩:=R;have U:=e.2;refine aF (L:=[aUh g first cap D λx=>.bool (p x)]) (elist_cons (DC h) aD) aG iv O P Q rfl rfl (aA (vC e λx M=>(H x (v x (N x M))).1).und (aA V.und aC)) aH ?_;rw[e.els];simp+contextual+decide(maxSteps:=9^9)only[↓wP,wQ,tf,Nat.reduceAdd,wS,reduceCtorEq,e.len];refine aTq (λi t=>t.val 0=a/\t.val 1=.func (.func g) first cap/\t.val 7=.int .i64 (xs.length:Nat)/\t.val 8=.int .i64 (i:Nat)/\i<=xs.length/\yD p xs 0=yD p (xs.drop i) i) (λi=>xs.length-i) ⟨i0,i0,i0,by simp+decide only[↓aE,dP,cZ];rfl,μ _,rfl⟩ ?_;rintro i t ⟨o,q,u,G,T,c⟩;rcases Γ i xs.length with k|E;obtain⟨x,b,M,Y,S,f,X,J⟩:=cN (λx h=>H.len (v x h)) N U k;rw[S,yD]at c;have l:=λ{d:Option AV}=>H.pf (v x b) (d:=d);cases m:p x with|true=>rw[m,cm rfl]at c;simp+contextual+decide(maxSteps:=9^9)only[↓wP,wQ,tf,Nat.reduceAdd,wS,reduceCtorEq,o,q,u,G,e.idx,f,J,l,qQ b,m,c]|false=>{rw[m,Δ iz]at c;simp+contextual+decide(maxSteps:=9^9)only[↓wP,wQ,tf,Nat.reduceAdd,wS,reduceCtorEq,o,q,u,G,e.idx,f,J,l,qQ b,m,X];exact⟨i+1,by show _-_<_-_;omega,_,rfl,by simp+decide only[↓aE,dP,cZ,o],by simp+decide only[↓aE,dP,cZ,q],by simp+decide only[↓aE,dP,cZ,u],i0,k,c⟩};obtain rfl:i=xs.length:=bq T E;rw[b6,yD]at c;simp+contextual+decide(maxSteps:=9^9)only[↓wP,wQ,tf,Nat.reduceAdd,wS,reduceCtorEq,o,q,u,G,cQ,c]):p:=h x y z w
theorem yC{A B C D E p:Prop}(x:A)(y:B)(z:C)(w:D)(v:E)(h:A->B->C->D->E->p:=by rename_i g first cap D;intro l e f k u b p d h a c;have q:=l b p d h c;obtain⟨xs,o,m⟩:=c;refine aF (elist_cons (dF q) aD) aG iv e f k rfl rfl (aA (vC o λx h=>(u x (b x (m x h))).1).und (aA d.und aC)) aI ?_;simp+contextual+decide(maxSteps:=9^9)only[↓wP,wQ,tf,Nat.reduceAdd,wS,reduceCtorEq,bW];rw[LY]):p:=h x y z w v
theorem HP{A B C D p:Prop}(x:A)(y:B)(z:C)(w:D)(h:A->B->C->D->p:=by rename_i g first cap D;intro k l m f e p q h x b;refine aF (elist_cons (DC h) aD) aG iv k l m rfl rfl (aA (f x (e x b)).1.und (aA (mC q).und aC)) aI ?_;have o:=λ{s:Sto}=>qQ (g:=g) (first:=first) (cap:=cap) (D:=D) (p:=λx=>.bool (p x)) (L:=[]) (s:=s) b;obtain⟨_,cs,rfl,c,d⟩:=f x (e x b);have u:=gw ((ξ _).trans c.symm);simp+contextual+decide(maxSteps:=9^9)only[↓wP,wQ,tf,Nat.reduceAdd,wS,reduceCtorEq,o,c,d,uB c,u]):p:=h x y z w
theorem aTr{A B C p:Prop}(x:A)(y:B)(z:C)(h:A->B->C->p:=by rename_i g first cap D;intro e f k d p m h x b;refine aF (elist_cons (DC h) aD) aG iv e f k rfl rfl (aA (tu_int x (d x b)).1.und (aA (mC m).und aC)) aI ?_;have l:=λ{s:Sto}=>qQ (g:=g) (first:=first) (cap:=cap) (D:=D) (p:=λx=>.bool (p x)) (L:=[]) (s:=s) b;have c:=(tu_int x (d x b)).2;simp+contextual+decide(maxSteps:=9^9)only[↓wP,wQ,tf,Nat.reduceAdd,wS,reduceCtorEq,l,c]):p:=h x y z
section
variable {F C g:FuncId} {first cap:List AV} {a:AV} {r:Bool}
theorem bBp(c:UnderE 0 a)(o:UnderE 0 (.func (.func g) first cap))(l:Abs.Returns prog C [a,.func (.func F) [] [.pf (.func (.func g) first cap)]] (.bool r)):∀args s,onL (.func (.func F) [] [.ptr 0 0 0]) (λb=>b=a) (λs=>s.get 0=some (aR 0 [.func (.func g) first cap])) args s->bY prog C args s (.ret (.bool r) none):=λargs s m=>by match args,m with|[b,f],⟨e,h,k⟩=>subst e;subst h;exact uW l uA ⟨.und _ c.und,uX k rfl (by intro x d;simp at d;subst d;exact o.und),es⟩
theorem bBq{s:Sto}(c:s.get 0=some (aR 0 [.func (.func g) first cap])):orcL [entB C (onL (.func (.func F) [] [.ptr 0 0 0]) (λb=>b=a) λs=>s.get 0=some (aR 0 [.func (.func g) first cap])) λ_=>.bool r] C [a,.func (.func F) [] [.ptr 0 0 0]] s=some (.ret (.bool r) none):=jX ⟨rfl,rfl,c⟩
end
theorem xB{A B C D E F p:Prop}(x:A)(y:B)(z:C)(w:D)(v:E)(u:F)(h:A->B->C->D->E->F->p:=by rename_i g first cap D;intro q G l m o M d p c h a e;have H:=q (first:=[]) (cap:=[.pf (.func (.func g) first cap)]) d (λx=>!p x) (jP (λ_ h=>nomatch h) (by intro x k;simp at k;subst k;exact mC c)) (G d p c h) e;obtain⟨xs,f,J⟩:=e;have b:=vC f λx h=>(M x (d x (J x h))).1;refine aF (L:=[entB _ _ λ_=>.bool (a.els.any λx=>!p x)]) (elist_cons (entB_ok (bBp b c H)) aD) aG iv l m o rfl rfl (aA b.und (aA c.und aC)) aI ?_;simp+contextual+decide(maxSteps:=9^9)only[↓wP,wQ,tf,Nat.reduceAdd,wS,reduceCtorEq,bBq,f.cell];rw[<-List.not_all_eq_any_not,Bool.not_not]):p:=h x y z w v u
theorem aTs:LV 414 UJ:=yB func414 ntmps414 results414 @tk_val
theorem YH:LW 382 UJ:=yC @aTs func382 ntmps382 results382 @tk_val
theorem a1h:LV 415 TFr:=yB func415 ntmps415 results415 @tk_fr
theorem aEr:LW 384 TFr:=yC @a1h func384 ntmps384 results384 @tk_fr
theorem a1i:LV 386 PJ:=yB func386 ntmps386 results386 @tk_ob
theorem aEs:LW 303 PJ:=yC @a1i func303 ntmps303 results303 @tk_ob
theorem aTt:LV 387 qD:=yB func387 ntmps387 results387 @tk_out
theorem YI:LW 306 qD:=yC @aTt func306 ntmps306 results306 @tk_out
theorem aTu:LV 189 dR:=yB func189 ntmps189 results189 @tu_int
theorem HQ:LW 123 dR:=yC @aTu func123 ntmps123 results123 @tu_int
theorem aTv:LV 317 GC:=yB func317 ntmps317 results317 @tk_con
theorem YJ:LW 232 GC:=yC @aTv func232 ntmps232 results232 @tk_con
theorem aMq:LV 319 gM:=yB func319 ntmps319 results319 @tk_node
theorem UK:LW 235 gM:=yC @aMq func235 ntmps235 results235 @tk_node
theorem aTw:LV 394 BO:=yB func394 ntmps394 results394 @tk_pat
theorem YK:LW 321 BO:=yC @aTw func321 ntmps321 results321 @tk_pat
theorem aTx:IP 233 GC:=HP func233 ntmps233 results233 @tk_con
theorem a1j:IO 144 GC:=xB @YJ @aTx func144 ntmps144 results144 @tk_con
theorem aMr:IP 236 gM:=HP func236 ntmps236 results236 @tk_node
theorem aTy:IO 149 gM:=xB @UK @aMr func149 ntmps149 results149 @tk_node
theorem aTz:IP 322 BO:=HP func322 ntmps322 results322 @tk_pat
theorem aJe:IO 242 BO:=xB @YK @aTz func242 ntmps242 results242 @tk_pat
theorem aUa:IP 243 dR:=aTr func243 ntmps243 results243
theorem a1k:IO 151 dR:=xB @HQ @aUa func151 ntmps151 results151 @tu_int
theorem aUb:IP 388 UJ:=HP func388 ntmps388 results388 @tk_val
theorem a1l:IO 309 UJ:=xB @YH @aUb func309 ntmps309 results309 @tk_val
theorem a1m:IP 416 TFr:=HP func416 ntmps416 results416 @tk_fr
theorem aUc:IO 389 TFr:=xB @aEr @a1m func389 ntmps389 results389 @tk_fr
theorem a1n:IP 308 PJ:=HP func308 ntmps308 results308 @tk_ob
theorem a7e:IO 227 PJ:=xB @aEs @a1n func227 ntmps227 results227 @tk_ob
theorem aUd:IP 316 qD:=HP func316 ntmps316 results316 @tk_out
theorem a1o:IO 230 qD:=xB @YI @aUd func230 ntmps230 results230 @tk_out
theorem aUe:IP 196 dR:=aTr func196 ntmps196 results196
theorem a1p:IO 129 dR:=xB @HQ @aUe func129 ntmps129 results129 @tu_int
