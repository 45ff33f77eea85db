/-
  The program of meanings: the tasks of a world.
-/
import Derived.Test.YtginbapbkjhnjaaGreatNm
import Derived.Test.YtginbapbkjhnjaaGreatEp
set_option linter.unusedVariables false
set_option linter.unusedSimpArgs false
namespace Go.Abs
open Classical
noncomputable section
variable {P:Program}
def ZW (K:AV->Prop) (keys:List AV) (x:AObj):Prop:=∃ es c,x=.map es c/\es.map (·.1)=keys/\∀ e∈es,K e.1/\e.2.1=.bool true
end
end Go.Abs
namespace Go.Proofs.YtginbapbkjhnjaaGreat
open Go.Abs Go Go.Abs.TryzF
noncomputable section
set_option maxRecDepth 10000
def XP (os ts:List AV) (x:AV):Bool:=(ts.any fun y=>decide (y.num=x.num)) || !decide (((os.getD x.num.toNat .top).fld 0).num=6)
section
variable {ns fs mm cs os ts us is uu:AV}
def S3 (R:AV) (ys:List AV) (s:Sto):Prop:=s.get 0=some (aT 0 [R])/\s.get 2=some (aT 0 [.map 1])/\∃ x,s.get 1=some x/\ZW dM ys x
theorem S3.sim {R:AV} {ys:List AV} (s s':Sto) (h:Sim s s') (hs:S3 R ys s):S3 R ys s':=by
 obtain ⟨h1,h2,x,h3,h4⟩:=hs;exact ⟨h.get h1,h.get h2,x,h.get h3,h4⟩
end
section
variable {ns fs mm cs os ts us is uu:AV}
end
end
end Go.Proofs.YtginbapbkjhnjaaGreat
/-
 Strings: small letters,great names.
-/
namespace Go.Abs
noncomputable section
variable {P:Program} {O:Orc}
end
end Go.Abs
namespace Go.Proofs.YtginbapbkjhnjaaGreat
open Go.Abs Go Go.Abs.TryzF
noncomputable section
set_option maxRecDepth 10000
end
end Go.Proofs.YtginbapbkjhnjaaGreat
