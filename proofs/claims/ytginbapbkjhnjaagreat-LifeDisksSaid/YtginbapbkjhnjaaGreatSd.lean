/-
  Branches: the difference, in the program.
-/
import Derived.Test.YtginbapbkjhnjaaGreatSa
set_option linter.unusedVariables false
set_option linter.unusedSimpArgs false
namespace Go.Abs
noncomputable section
section
variable {P:Program} {O:Orc} {H:cG}
end
end
end Go.Abs
namespace Go.Proofs.YtginbapbkjhnjaaGreat
open Go.Abs Go Go.Abs.TryzF
noncomputable section
set_option maxRecDepth 10000
section
variable {os ts us is no os' ts' us' is' no':AV}
theorem GR.all (h:GR os ts us is no os' ts' us' is' no'):∀ x∈[os,ts,us,is,no,os',ts',us',is',no'],UnderE 0 x:=lI (EN h.w.und h.s.und)
end
end
end Go.Proofs.YtginbapbkjhnjaaGreat
/-
 Branches: the difference,in the program,at last.
-/
namespace Go.Abs
end Go.Abs
namespace Go.Proofs.YtginbapbkjhnjaaGreat
open Go.Abs Go Go.Abs.TryzF
noncomputable section
set_option maxRecDepth 10000
section
variable {os ts us is no os' ts' us' is' no':AV}
end
section
variable {p b w:AV}
end
end
end Go.Proofs.YtginbapbkjhnjaaGreat
/-
 Branches: differences,in the reference.
-/
namespace Go.Proofs.YtginbapbkjhnjaaGreat
open Go.Abs Go Go.Abs.TryzF
noncomputable section
set_option maxRecDepth 10000
section
variable {os ts us is no os' ts' us' is' no':AV}
end
end
end Go.Proofs.YtginbapbkjhnjaaGreat
/-
 The law BranchDiffs,as a function.
-/
namespace Go.Proofs.YtginbapbkjhnjaaGreat
open Go.Abs Go Go.Abs.TryzF
noncomputable section
set_option maxRecDepth 10000
section
variable {p os ts us is no os' ts' us' is' no':AV}
end
end
end Go.Proofs.YtginbapbkjhnjaaGreat
