/-
  Points: the state while it is looked at.
-/
import Derived.Test.YtginbapbkjhnjaaGreatPj
set_option linter.unusedVariables false
set_option linter.unusedSimpArgs false
namespace Go.Proofs.YtginbapbkjhnjaaGreat
open Go.Abs Go Go.Abs.TryzF
noncomputable section
set_option maxRecDepth 10000
def pst (os ts us is no ns fs mm cs os' ts' us' is' no' d g:AV):List AV:=[os,ts,us,is,no,ns,fs,mm,cs,os',ts',us',is',no',d,g]
section
variable {os ts us is no ns fs mm cs os' ts' us' is' no' d g:AV}
end
section
variable {os ts us is no ns fs mm cs os' ts' us' is' no' d g:AV}
end
end
end Go.Proofs.YtginbapbkjhnjaaGreat
/-
 The abstract machine: a range over a function that looks at the store.
-/
namespace Go.Abs
noncomputable section
section
variable {P:Program} {O:Orc} {H:cO}
end
end
end Go.Abs
/-
 Points: which objects are missing.
-/
namespace Go.Proofs.YtginbapbkjhnjaaGreat
open Go.Abs Go Go.Abs.TryzF
noncomputable section
set_option maxRecDepth 10000
section
variable {os ts us is no ns fs mm cs os' ts' us' is' no' d g:AV}
end
end
end Go.Proofs.YtginbapbkjhnjaaGreat
