/-
  The reference of points: the world of the beginning.
-/
import Derived.Test.YtifmdaalhclhgaaGreatQe
set_option linter.unusedVariables false
set_option linter.unusedSimpArgs false
namespace Go.Proofs.YtifmdaalhclhgaaGreat
open Go.Abs Go Go.Abs.TryzF
noncomputable section
set_option maxRecDepth 10000
theorem bQ {k lo n n':Nat} {v:AV} {o o':Tr AObj} {R:List (List AV)} (h:AccM k lo v n o R) (hn:n<=n') (hs:∀ id,lo<=id->id<n->o'.get id=o.get id):AccM k lo v n' o' R:=by
 rcases h with h | ⟨h1,id,g,h2,h3,h4,h5⟩
 ·exact .inl h
 ·exact .inr ⟨h1,id,g,h2,by rw [hs id h5 h4];exact h3,Nat.lt_of_lt_of_le h4 hn,h5⟩
theorem gL {k lo m:Nat} {T:AV->Prop} (hT:Tk k T) {xs:List AV} (hx:∀ x∈xs,T x) {v:AV} {n low:Nat} {o:Tr AObj} (h:AccM k lo v n o (xs.map AV.cells)) (hm:m<=lo):Frz ⟨n,low,o⟩ m v (aM xs):=
 stn_frz (StN.acc h) hm hT hx fun h0=>by
  rcases h with ⟨_,h1⟩ | ⟨h1,_⟩
  ·exact h1
  ·rw [h0]at h1;exact absurd rfl h1
theorem zY {lo m:Nat} {T:AV->Prop} (hT:Tu T) {xs:List AV} (hx:∀ x∈xs,T x) {v:AV} {n low:Nat} {o:Tr AObj} (h:AccM 1 lo v n o (xs.map AV.cells)) (hm:m<=lo):Frz ⟨n,low,o⟩ m v (aM xs):=by
 have hc:∀ x∈xs,x.isCell=true:=fun x h=>(hT x (hx x h)).2
 rcases h with ⟨h1,rfl⟩ | ⟨h1,id,g,rfl,h2,h3,h4⟩
 ·rw [List.map_eq_nil_iff.1 h1];exact .und _ dJ
 ·have hl:xs.length≠0:=fun e=>h1 (by rw [List.length_eq_zero_iff.1 e];rfl)
  unfold aM;rw [if_neg hl,List.length_map];rw [pS hc]at h2
  refine lC (g:=g) (cs:=xs) (Nat.le_trans hm h4) (by rw [Sto.get_mk h3];exact h2) rfl aE hc fun j x y hx' hy=>?_
  rw [Nat.zero_add]at hx';have he:some x=some y:=hx'.symm.trans hy;cases he;exact .und _ ((hT x (hx x (List.mem_of_getElem? hx'))).1.mono (Nat.zero_le _)).und
section
variable {os ts us is no os' ts' us' is' no' d g:AV}
end
def qZ (p w:AV):Bool:=nO (p.fld 0).els (p.fld 3).els (p.fld 1).els.length (w.fld 0).els (w.fld 1).els (w.fld 2).els (w.fld 3).els (w.fld 4).num
structure SGL (os ts us is no os' ts' us' is' no' dd gg:AV):Prop extends SG os ts us is no os' ts' us' is' no' dd gg where
 lo:os.els.length<=1000
 lt:ts.els.length<=1000
 lu:us.els.length<=1000
 li:is.els.length<=1000
 lo':os'.els.length<=1000
 lt':ts'.els.length<=1000
 lu':us'.els.length<=1000
 li':is'.els.length<=1000
 ld:dd.els.length<=1000
 lg:gg.els.length<=1000
section
variable {p os ts us is no os' ts' us' is' no' d g:AV}
end
def qT (p:AV):Bool:=mN (p.fld 0).els (p.fld 1).els (p.fld 2).num (p.fld 3).els
def SmP (p:AV):Prop:=(p.fld 3).els.length<=1000
abbrev FD:List AV->Option AV:=rE (fun a=>fY a/\SmP a) fun p=>.bool (qT p)
theorem rformedV_ok:Abs.Ok Tryz.prog 70 FD:=wD fun a ⟨⟨ns,fs,mm,cs,e,a1,a2,a3,a4⟩,hl⟩=>by
 subst e;exact RI ⟨a1,a2,a3,a4⟩ hl
section
variable {p os ts us is no os' ts' us' is' no' d g:AV}
end
end
end Go.Proofs.YtifmdaalhclhgaaGreat
