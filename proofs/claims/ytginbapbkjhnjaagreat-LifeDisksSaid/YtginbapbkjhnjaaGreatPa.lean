/-
  Plain laws: a program is as the reference says just when it is as the program of programs says.
-/
import Derived.Test.YtginbapbkjhnjaaGreatOh
import Derived.Test.YtginbapbkjhnjaaGreatOa
set_option linter.unusedVariables false
set_option linter.unusedSimpArgs false
namespace Go.Proofs.YtginbapbkjhnjaaGreat
open Go.Abs Go Go.Abs.TryzF
noncomputable section
set_option maxRecDepth 10000
end
end Go.Proofs.YtginbapbkjhnjaaGreat
/-
 Plain laws: a world is as the reference says just when it is as the runner says.
-/
namespace Go.Proofs.YtginbapbkjhnjaaGreat
open Go.Abs Go Go.Abs.TryzF
noncomputable section
set_option maxRecDepth 10000
end
end Go.Proofs.YtginbapbkjhnjaaGreat
