/-
  The reference of meanings: tasks and objects as they are defined.
-/
import Derived.Test.YtginbapbkjhnjaaGreatNg
set_option linter.unusedVariables false
set_option linter.unusedSimpArgs false
namespace Go.Proofs.YtginbapbkjhnjaaGreat
open Go.Abs Go Go.Abs.TryzF
noncomputable section
set_option maxRecDepth 10000
section
variable {ns fs mm cs os ts us is uu:AV}
abbrev LT (ns fs mm cs os ts us is uu:AV):List kY:=[ent 143 (LJ (pg ns fs mm cs) (wd os ts us is uu) ns.els fs.els.length os.els.length),ent 145 (LI (pg ns fs mm cs) (wd os ts us is uu) fs.els.length os.els.length),ent 144 (UT (pg ns fs mm cs) ns)]
end
section
variable {ns fs mm cs os ts us is uu:AV}
end
end
end Go.Proofs.YtginbapbkjhnjaaGreat
