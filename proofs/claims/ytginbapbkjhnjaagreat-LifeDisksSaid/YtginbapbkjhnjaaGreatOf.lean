/-
  The reference of programs: programs as they are defined.
-/
import Derived.Test.YtginbapbkjhnjaaGreatOe
set_option linter.unusedVariables false
set_option linter.unusedSimpArgs false
namespace Go.Proofs.YtginbapbkjhnjaaGreat
open Go.Abs Go Go.Abs.TryzF
noncomputable section
set_option maxRecDepth 10000
section
variable {ns fs mm cs:AV}
end
section
variable {ns fs mm cs:AV}
end
end
end Go.Proofs.YtginbapbkjhnjaaGreat
