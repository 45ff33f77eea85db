/-
  The reference of points: the world of the beginning.
-/
import Derived.Test.YtifmdaalhclhgaaGreatQe
set_option linter.unusedVariables false
set_option linter.unusedSimpArgs false
namespace Go.Proofs.YtifmdaalhclhgaaGreat
open Go.Abs Go Go.Abs.TryzF
noncomputable section
set_option maxRecDepth 10000
theorem VO {k lo m:Nat} {T:AV->Prop} (hT:Tk k T) {xs:List AV} (hx:∀ x∈xs,T x) {v:AV} {n low:Nat} {o:Tr AObj} (h:AccM k lo v n o (xs.map AV.cells)) (hm:m<=lo):Frz ⟨n,low,o⟩ m v (bX xs):=
 stn_frz (StN.acc h) hm hT hx fun h0=>by
  rcases h with ⟨_,h1⟩ | ⟨h1,_⟩
  ·exact h1
  ·rw [h0]at h1;exact absurd rfl h1
section
variable {os ts us is no os' ts' us' is' no' d g:AV}
end
def iN (p w:AV):Bool:=mP (p.fld 0).els (p.fld 3).els (p.fld 1).els.length (w.fld 0).els (w.fld 1).els (w.fld 2).els (w.fld 3).els (w.fld 4).num
structure SGL (os ts us is no os' ts' us' is' no' dd gg:AV):Prop extends SG os ts us is no os' ts' us' is' no' dd gg where
 lo:os.els.length<=1000
 lt:ts.els.length<=1000
 lu:us.els.length<=1000
 li:is.els.length<=1000
 lo':os'.els.length<=1000
 lt':ts'.els.length<=1000
 lu':us'.els.length<=1000
 li':is'.els.length<=1000
 ld:dd.els.length<=1000
 lg:gg.els.length<=1000
section
variable {p os ts us is no os' ts' us' is' no' d g:AV}
end
def pR (p:AV):Bool:=lP (p.fld 0).els (p.fld 1).els (p.fld 2).num (p.fld 3).els
def SmP (p:AV):Prop:=(p.fld 3).els.length<=1000
abbrev BP:List AV->Option AV:=qR (fun a=>fL a/\SmP a) fun p=>.bool (pR p)
theorem rformedV_ok:Abs.Ok Tryz.prog 70 BP:=vY fun a ⟨⟨ns,fs,mm,cs,e,a1,a2,a3,a4⟩,hl⟩=>by
 subst e;exact LX ⟨a1,a2,a3,a4⟩ hl
section
variable {p os ts us is no os' ts' us' is' no' d g:AV}
end
end
end Go.Proofs.YtifmdaalhclhgaaGreat
