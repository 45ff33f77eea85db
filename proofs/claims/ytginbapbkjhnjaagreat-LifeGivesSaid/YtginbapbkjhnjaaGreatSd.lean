/-
  Branches: the difference, in the program.
-/
import Derived.Test.YtginbapbkjhnjaaGreatSa
set_option linter.unusedVariables false
set_option linter.unusedSimpArgs false
namespace Go.Abs
noncomputable section
section
variable {P:Program} {O:Orc} {H:cO}
end
end
end Go.Abs
namespace Go.Proofs.YtginbapbkjhnjaaGreat
open Go.Abs Go Go.Abs.TryzF
noncomputable section
set_option maxRecDepth 10000
section
variable {os ts us is no os' ts' us' is' no':AV}
theorem GR.all (h:GR os ts us is no os' ts' us' is' no'):∀ x∈[os,ts,us,is,no,os',ts',us',is',no'],UnderE 0 x:=oU (NE h.w.und h.s.und)
end
end
end Go.Proofs.YtginbapbkjhnjaaGreat
/-
 Branches: the difference,in the program,at last.
-/
namespace Go.Abs
end Go.Abs
namespace Go.Proofs.YtginbapbkjhnjaaGreat
open Go.Abs Go Go.Abs.TryzF
noncomputable section
set_option maxRecDepth 10000
section
variable {os ts us is no os' ts' us' is' no':AV}
end
theorem TK {p w:AV} (h:kZ p w=true):UsB (w.fld 4):=by
 simp only [kZ,nJ,Bool.and_eq_true,inR,decide_eq_true_eq]at h
 exact ⟨h.2.2.2.2.2.2.1,h.2.2.2.2.2.2.2⟩
section
variable {p b w:AV}
end
end
end Go.Proofs.YtginbapbkjhnjaaGreat
/-
 Branches: differences,in the reference.
-/
namespace Go.Proofs.YtginbapbkjhnjaaGreat
open Go.Abs Go Go.Abs.TryzF
noncomputable section
set_option maxRecDepth 10000
theorem ND {p w:AV} (h:lP p w=true):UsB (w.fld 4):=by
 simp only [lP,iM,Bool.and_eq_true,inR,decide_eq_true_eq]at h
 exact ⟨h.2.2.2.1.1,h.2.2.2.1.2⟩
section
variable {os ts us is no os' ts' us' is' no':AV}
end
theorem TL {w:AV} (h:lD (w.fld 0).els (w.fld 1).els (w.fld 2).els (w.fld 3).els=true):SmW w:=by
 simp only [lD,Bool.and_eq_true,decide_eq_true_eq,List.all_eq_true]at h
 obtain ⟨a1,a2,a3,a4,a5⟩:=h
 exact ⟨⟨by omega,fun o ho=>TP (a5 o ho)⟩,by omega,by omega,by omega⟩
theorem TM {p:AV} (h:eD (p.fld 0).els (p.fld 1).els (p.fld 3).els=true):SmP p:=by
 simp only [eD,Bool.and_eq_true,decide_eq_true_eq]at h
 obtain ⟨a1,a2,a3,_⟩:=h
 show _<=1000
 omega
section
variable {p os ts us is no os' ts' us' is' no':AV}
end
end
end Go.Proofs.YtginbapbkjhnjaaGreat
