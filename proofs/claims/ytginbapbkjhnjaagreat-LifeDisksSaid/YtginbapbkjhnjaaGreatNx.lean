/-
  The program of programs: patterns.
-/
import Derived.Test.YtginbapbkjhnjaaGreatNu
import Derived.Test.YtginbapbkjhnjaaGreatEm
set_option linter.unusedVariables false
set_option linter.unusedSimpArgs false
namespace Go.Proofs.YtginbapbkjhnjaaGreat
open Go.Abs Go Go.Abs.TryzF
noncomputable section
set_option maxRecDepth 10000
section
variable {ns fs mm cs:AV}
end
def depth (a:AV):Nat:=@dite _ (∃ d,TPatN d a) (Classical.propDecidable _) (fun h=>h.choose) fun _=>0
section
variable {ns fs mm cs:AV}
def isNone:KidsK->Bool
 | .none=>true
 | _=>false
end
end
end Go.Proofs.YtginbapbkjhnjaaGreat
