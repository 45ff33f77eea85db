/-
  The program of programs: programs as they are defined, at last.
-/
import Derived.Test.YtginbapbkjhnjaaGreatNx
set_option linter.unusedVariables false
set_option linter.unusedSimpArgs false
namespace Go.Proofs.YtginbapbkjhnjaaGreat
open Go.Abs Go Go.Abs.TryzF
noncomputable section
set_option maxRecDepth 10000
section
variable {ns fs mm cs:AV}
end
def kC (b:Bool):AV:=.int .i64 (if b=true then 0 else 2)
end
end Go.Proofs.YtginbapbkjhnjaaGreat
