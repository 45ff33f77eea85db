/-
  The reference of points: the world of the beginning.
-/
import Derived.Test.YtginbapbkjhnjaaGreatQe
set_option linter.unusedVariables false
set_option linter.unusedSimpArgs false
namespace Go.Proofs.YtginbapbkjhnjaaGreat
open Go.Abs Go Go.Abs.TryzF
noncomputable section
set_option maxRecDepth 10000
section
variable {os ts us is no os' ts' us' is' no' d g:AV}
end
structure SGL (os ts us is no os' ts' us' is' no' dd gg:AV):Prop extends SG os ts us is no os' ts' us' is' no' dd gg where
 lo:os.els.length<=1000
 lt:ts.els.length<=1000
 lu:us.els.length<=1000
 li:is.els.length<=1000
 lo':os'.els.length<=1000
 lt':ts'.els.length<=1000
 lu':us'.els.length<=1000
 li':is'.els.length<=1000
 ld:dd.els.length<=1000
 lg:gg.els.length<=1000
section
variable {p os ts us is no os' ts' us' is' no' d g:AV}
end
def SmP (p:AV):Prop:=(p.fld 3).els.length<=1000
section
variable {p os ts us is no os' ts' us' is' no' d g:AV}
end
end
end Go.Proofs.YtginbapbkjhnjaaGreat
