/-
  The reference of meanings: worlds as they are defined.
-/
import Derived.Test.YtginbapbkjhnjaaGreatNk
set_option linter.unusedVariables false
set_option linter.unusedSimpArgs false
namespace Go.Proofs.YtginbapbkjhnjaaGreat
open Go.Abs Go Go.Abs.TryzF
noncomputable section
set_option maxRecDepth 10000
end
end Go.Proofs.YtginbapbkjhnjaaGreat
/-
 The reference of meanings: worlds as they are defined,at last.
-/
namespace Go.Proofs.YtginbapbkjhnjaaGreat
open Go.Abs Go Go.Abs.TryzF
noncomputable section
set_option maxRecDepth 10000
end
end Go.Proofs.YtginbapbkjhnjaaGreat
/-
 Calls that read the store: whether something is so of all numbers of a list,by a function that reads what its maker keeps.
-/
namespace Go.Abs
noncomputable section
variable {P:Program}
end
end Go.Abs
namespace Go.Proofs.YtginbapbkjhnjaaGreat
open Go.Abs Go Go.Abs.TryzF
noncomputable section
set_option maxRecDepth 10000
variable {g:FuncId} {cap:List AV} {D:AV->Prop} {S:Sto->Prop} {p:AV->Bool}
def Acc1 (u:Sto) (c:Nat) (k:Nat) (l:List AV):Prop:=∃ v,u.get c=some (aT 0 [v])/\(l=[]/\v=.nils∨l≠[]/\∃ id g,v=.sl id g 0 l.length (.room 1)/\u.get id=some (aT g l)/\k<id)
theorem Acc1.sim {l':Nat} {u u':Sto} {c k:Nat} {l:List AV} (h:SimX l' u u') (hc:c≠l') (hk:l'<=k) (ha:Acc1 u c k l):Acc1 u' c k l:=by
 obtain ⟨v,h1,h2⟩:=ha
 refine ⟨v,h.get h1 hc,?_⟩
 rcases h2 with h2 | ⟨h0,id,g,rfl,h3,h4⟩
 ·exact .inl h2
 ·exact .inr ⟨h0,id,g,rfl,h.get h3 (by omega),h4⟩
theorem Acc1.new {u:Sto} {c k id g m:Nat} {l:List AV} (h1:u.get c=some (aT 0 [.sl id g 0 m (.room 1)])) (h2:u.get id=some (aT g l)) (hm:m=l.length) (hl:l≠[]) (hk:k<id):Acc1 u c k l:=
 ⟨_,h1,.inr ⟨hl,id,g,by rw [hm],h2,hk⟩⟩
theorem Acc1.nil {u:Sto} {c k:Nat} (h1:u.get c=some (aT 0 [.nils])):Acc1 u c k []:=⟨_,h1,.inl ⟨rfl,rfl⟩⟩
end
end Go.Proofs.YtginbapbkjhnjaaGreat
