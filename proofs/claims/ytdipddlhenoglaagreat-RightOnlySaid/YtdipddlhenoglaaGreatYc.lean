/-
  The nodes below some nodes, by the reference.
-/
import Derived.Test.YtdipddlhenoglaaGreatYa
set_option linter.unusedVariables false
set_option linter.unusedSimpArgs false
namespace Go.Proofs.YtdipddlhenoglaaGreat
open Go.Abs Go Go.Abs.TryzF
noncomputable section
set_option maxRecDepth 10000
section
variable {ns fs mm cs:AV}
end
section
variable {ns fs mm cs:AV}
end
end
end Go.Proofs.YtdipddlhenoglaaGreat
/-
 The marks of code,in plain words.
-/
namespace Go.Abs
end Go.Abs
namespace Go.Proofs.YtdipddlhenoglaaGreat
open Go.Abs Go Go.Abs.TryzF
noncomputable section
set_option maxRecDepth 10000
section
variable {ns fs mm cs:AV}
end
end
end Go.Proofs.YtdipddlhenoglaaGreat
