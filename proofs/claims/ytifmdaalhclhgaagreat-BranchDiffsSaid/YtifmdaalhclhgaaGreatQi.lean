/-
  Points: what is done when a state is given up with.
-/
import Derived.Test.YtifmdaalhclhgaaGreatQe
import Derived.Test.YtifmdaalhclhgaaGreatEt
import Derived.Test.YtifmdaalhclhgaaGreatQh
set_option linter.unusedVariables false
set_option linter.unusedSimpArgs false
namespace Go.Proofs.YtifmdaalhclhgaaGreat
open Go.Abs Go Go.Abs.TryzF
noncomputable section
set_option maxRecDepth 10000
end
end Go.Proofs.YtifmdaalhclhgaaGreat
/-
 Points: opening a state.
-/
namespace Go.Proofs.YtifmdaalhclhgaaGreat
open Go.Abs Go Go.Abs.TryzF
noncomputable section
set_option maxRecDepth 10000
def OpenAt (lo:Nat) (s:Sto) (id:Nat) (ns fs mm cs ts us is no ts' us' is' no':AV) (xo xo' xd xg:List AV):Prop:=∃ os os' d g a b c,s.get id=some (bF 0 (pst os (fC ts) (fC us) (fC is) no ns fs mm cs os' (fC ts') (fC us') (fC is') no' d g))/\
 StN lo a s os (xo.map lV)/\StN a b s os' (xo'.map lV)/\StN b c s d xd/\StN c id s g xg/\lo<=a/\a<=b/\b<=c/\c<=id
theorem OpenAt.sim {lo:Nat} {s s':Sto} {id:Nat} {ns fs mm cs ts us is no ts' us' is' no':AV} {xo xo' xd xg:List AV} (h:OpenAt lo s id ns fs mm cs ts us is no ts' us' is' no' xo xo' xd xg) (hs:Sim s s'):OpenAt lo s' id ns fs mm cs ts us is no ts' us' is' no' xo xo' xd xg:=by
 obtain ⟨os,os',d,g,a,b,c,h1,h2,h3,h4,h5,h6⟩:=h;exact ⟨os,os',d,g,a,b,c,hs.get h1,h2.sim hs,h3.sim hs,h4.sim hs,h5.sim hs,h6⟩
section
variable {p os ts us is no os' ts' us' is' no' d g:AV}
end
end
end Go.Proofs.YtifmdaalhclhgaaGreat
