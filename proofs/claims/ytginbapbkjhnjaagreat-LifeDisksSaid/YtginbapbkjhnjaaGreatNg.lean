/-
  The program of meanings: objects.
-/
import Derived.Test.YtginbapbkjhnjaaGreatNc
set_option linter.unusedVariables false
set_option linter.unusedSimpArgs false
namespace Go.Proofs.YtginbapbkjhnjaaGreat
open Go.Abs Go Go.Abs.TryzF
noncomputable section
set_option maxRecDepth 10000
section
variable {ns fs mm cs os ts us is uu:AV}
end
section
variable {ns fs mm cs os ts us is uu:AV}
abbrev pg (ns fs mm cs:AV):AV:=.agg [ns,fs,mm,cs]
abbrev wd (os ts us is uu:AV):AV:=.agg [os,ts,us,is,uu]
theorem RW.pg (h:RW ns fs mm cs os ts us is uu):LK (pg ns fs mm cs):=⟨_,_,_,_,rfl,h.ns,h.fs,h.mm,h.cs⟩
theorem RW.wd (h:RW ns fs mm cs os ts us is uu):ZY (wd os ts us is uu):=⟨_,_,_,_,_,rfl,h.os,h.ts,h.us,h.is,h.uu⟩
abbrev LI (P W:AV) (nf no:Int):List AV->Option AV:=sg4 (fun a b c d=>a=P/\b=W/\yC c/\dM d) fun _ _ c d=>.bool (LM nf no d.num c.els)
end
section
variable {ns fs mm cs os ts us is uu:AV}
abbrev LJ (P W:AV) (xn:List AV) (nf no:Int):List AV->Option AV:=WS (fun a b c=>a=P/\b=W/\UU c) fun _ _ c=>.bool (aAb xn nf no c.els)
abbrev UT (P ns:AV):List AV->Option AV:=WS (fun a b c=>a=P/\TSl (TFn ns) b/\∃ m:Nat,c=.int .i64 m/\m<=b.els.length) fun _ b c=>.bool ((b.els.take c.num.toNat).all (XV ns.els))
end
end
end Go.Proofs.YtginbapbkjhnjaaGreat
