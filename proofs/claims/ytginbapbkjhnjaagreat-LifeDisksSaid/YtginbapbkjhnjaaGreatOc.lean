/-
  The references of terms and programs: names, and how many nodes patterns have; constructors.
-/
import Derived.Test.YtginbapbkjhnjaaGreatOa
set_option linter.unusedVariables false
set_option linter.unusedSimpArgs false
namespace Go.Proofs.YtginbapbkjhnjaaGreat
open Go.Abs Go Go.Abs.TryzF
noncomputable section
set_option maxRecDepth 10000
end
end Go.Proofs.YtginbapbkjhnjaaGreat
/-
 The reference of programs: constructors,patterns.
-/
namespace Go.Proofs.YtginbapbkjhnjaaGreat
open Go.Abs Go Go.Abs.TryzF
noncomputable section
set_option maxRecDepth 10000
def rV:Code->Option Code
 | .seq a b=>match rV a with
   | some l=>some l
   | none=>rV b
 | .cond _ a b=>match rV a with
   | some l=>some l
   | none=>rV b
 | .block _ a=>rV a
 | .scope a=>rV a
 | .loop a=>some (.loop a)
 | _=>none
end
end Go.Proofs.YtginbapbkjhnjaaGreat
