/-
  The law 'LifeDisks' holds: it returns true, and what was there reads as it did. No condition.
-/
import Derived.Test.YtginbapbkjhnjaaGreatRows
import Derived.Test.YtginbapbkjhnjaaGreatYl
import Derived.Test.YtginbapbkjhnjaaGreatEj
import Derived.Test.YtginbapbkjhnjaaGreatKl
import Derived.WalkKit
import Derived.ProofKit
import Derived.OpenShut
set_option linter.unusedVariables false
set_option linter.unusedSimpArgs false
namespace Go.Proofs.YtginbapbkjhnjaaGreat.lifeDisks
open Go.ChangeShapes Go.WideShapes Go.ChangeAt Go.RowKit Go.Proofs.YtginbapbkjhnjaaGreat Go.Proofs.YtginbapbkjhnjaaGreat
noncomputable section
set_option maxRecDepth 100000
theorem PF:Abs.Returns Tryz.prog 7 [] (.bool true):=K.root_ok
theorem proved:Rows.LifeDisksSaid:=
 over PF
#print axioms proved
end
end Go.Proofs.YtginbapbkjhnjaaGreat.lifeDisks
