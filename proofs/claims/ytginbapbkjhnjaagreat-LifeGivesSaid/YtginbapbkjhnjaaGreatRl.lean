/-
  Points: Slice of the program.
-/
import Derived.Test.YtginbapbkjhnjaaGreatRg
import Derived.Test.YtginbapbkjhnjaaGreatRa
set_option linter.unusedVariables false
set_option linter.unusedSimpArgs false
namespace Go.Abs
noncomputable section
variable {P:Program}
theorem IZ {K x y i:Nat} (hi:i<2000):[1001,bU K,bU x,bU y].elem i=[1001,2000,2000,2000].elem i:=by
 have h1:∀ n,(i==bU n)=false:=fun n=>by simp [bU];omega
 have h2:(i==2000)=false:=by simp;omega
 simp only [List.elem_cons,h1,h2]
theorem lB {qs:List Nat} {K x y i:Nat} {op:Op} (hi:i<2000):bY qs [1001,bU K,bU x,bU y] i op=bY qs [1001,2000,2000,2000] i op:=by
 unfold bY;rw [IZ hi]
theorem sI {qs az:List Nat} {K x y:Nat}:∀ (ops:List Oper) (i:Nat),i+ops.length<=2000->jI qs [1001,bU K,bU x,bU y] az ops i=jI qs [1001,2000,2000,2000] az ops i
 | [],_,_=>rfl
 | o::rest,i,h=>by
   rw [List.length_cons]at h
   rw [jI,jI,sI rest (i+1) (by omega),lB (by omega)]
   congr 1
   rw [Bool.eq_iff_iff,List.all_eq_true,List.all_eq_true]
   have hj:∀ q∈rest.zipIdx (i+1),q.2<2000:=fun q hq=>by
    have:=List.snd_lt_of_mem_zipIdx hq
    omega
   exact ⟨fun hh q hq=>by have:=hh q hq;rw [lB (hj q hq)]at this;exact this,fun hh q hq=>by have:=hh q hq;rw [lB (hj q hq)];exact this⟩
theorem PA {qs:List Nat} {K x y:Nat} {ops:List Oper} (h:Nat.ble ops.length 2000=true):QW qs [1001,bU K,bU x,bU y] ops=QW qs [1001,2000,2000,2000] ops:=by
 rw [QW,QW,sI ops 0 (by have:=Nat.le_of_ble_eq_true h;omega)]
variable {O:Orc} {H:cO}
end
end Go.Abs
namespace Go.Proofs.YtginbapbkjhnjaaGreat
open Go.Abs Go Go.Abs.TryzF
noncomputable section
set_option maxRecDepth 10000
section
variable {p os ts us is no os' ts' us' is' no' d g:AV}
def AcI (lo:Nat) (v:AV) (u:Sto) (R:List AV):Prop:=(R=[]/\v=.nils)∨(R≠[]/\∃ id g,v=.sl id g 0 R.length (.room 1)/\u.get id=some (bB g R)/\lo<=id)
theorem AcI.keep {lo:Nat} {v:AV} {u u':Sto} {R:List AV} (h:AcI lo v u R) (hk:∀ id,lo<=id->id<u.n->u'.get id=u.get id):AcI lo v u' R:=by
 rcases h with h | ⟨h0,id,g,h1,h2,h3⟩
 ·exact .inl h
 ·exact .inr ⟨h0,id,g,h1,by rw [hk id h3 (Sto.get_lt h2)];exact h2,h3⟩
end
section
variable {p os ts us is no os' ts' us' is' no' d g:AV}
end
end
end Go.Proofs.YtginbapbkjhnjaaGreat
