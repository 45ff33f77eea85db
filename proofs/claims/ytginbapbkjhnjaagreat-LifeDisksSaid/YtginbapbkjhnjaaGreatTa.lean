/-
  Copies of rows and of worlds that lie in what is new, and can be appended to.
-/
import Derived.Test.YtginbapbkjhnjaaGreatSd
set_option linter.unusedVariables false
set_option linter.unusedSimpArgs false
namespace Go.Abs
noncomputable section
def CapS (k lo:Nat) (v:AV) (n:Nat) (o:Tr AObj) (xs:List AV):Prop:=
 (xs=[]/\v=.nils)∨(∃ id g,v=.sl id g 0 xs.length (.room k)/\xs≠[]/\o.get id=some (aT g (xs.map AV.cells).flatten)/\id<n/\lo<=id)∨(∃ id,xs=[]/\v=.sl id 0 0 0 (.is 0)/\o.get id=some (aT 0 [])/\id<n/\lo<=id)
theorem CapS.cell {k lo n:Nat} {v:AV} {o:Tr AObj} {xs:List AV} (h:CapS k lo v n o xs):v.isCell=true:=by
 rcases h with ⟨_,rfl⟩ | ⟨_,_,rfl,_⟩ | ⟨_,_,rfl,_⟩<;>rfl
theorem CapS.under {k lo n:Nat} {v:AV} {o:Tr AObj} {xs:List AV} (h:CapS k lo v n o xs):UnderE n v:=by
 rcases h with ⟨_,rfl⟩ | ⟨_,_,rfl,_,_,h,_⟩ | ⟨_,_,rfl,_,h,_⟩
 ·exact ⟨1,rfl⟩
 ·exact ⟨1,by simpa [AV.under] using h⟩
 ·exact ⟨1,by simpa [AV.under] using h⟩
theorem CapS.keep {k lo n n':Nat} {v:AV} {o o':Tr AObj} {xs:List AV} (h:CapS k lo v n o xs) (hn:n<=n') (hs:∀ id,lo<=id->id<n->o'.get id=o.get id):CapS k lo v n' o' xs:=by
 rcases h with h | ⟨id,g,h1,h2,h3,h4,h5⟩ | ⟨id,h1,h2,h3,h4,h5⟩
 ·exact .inl h
 ·exact .inr (.inl ⟨id,g,h1,h2,by rw [hs id h5 h4];exact h3,Nat.lt_of_lt_of_le h4 hn,h5⟩)
 ·exact .inr (.inr ⟨id,h1,h2,by rw [hs id h5 h4];exact h3,Nat.lt_of_lt_of_le h4 hn,h5⟩)
theorem CapS.acc {k lo n:Nat} {v:AV} {o:Tr AObj} {xs:List AV} (h:AccM k lo v n o (xs.map AV.cells)):CapS k lo v n o xs:=by
 rcases h with ⟨h1,h2⟩ | ⟨h1,id,g,h2,h3,h4,h5⟩
 ·exact .inl ⟨List.map_eq_nil_iff.1 h1,h2⟩
 ·exact .inr (.inl ⟨id,g,by rw [h2,List.length_map],fun e=>h1 (by rw [e];rfl),h3,h4,h5⟩)
end
end Go.Abs
namespace Go.Proofs.YtginbapbkjhnjaaGreat
open Go.Abs Go Go.Abs.TryzF
noncomputable section
set_option maxRecDepth 10000
end
end Go.Proofs.YtginbapbkjhnjaaGreat
/-
 Copies of worlds of which all rows can be appended to.
-/
namespace Go.Proofs.YtginbapbkjhnjaaGreat
open Go.Abs Go Go.Abs.TryzF
noncomputable section
set_option maxRecDepth 10000
theorem bC {n low n' low':Nat} {o o':Tr AObj} (h:Sim ⟨n,low,o⟩ ⟨n',low',o'⟩) {i:Nat} (hi:i<n):o'.get i=o.get i:=by
 have:=h.2 i hi
 have h1:n<=n':=h.1
 rwa [Sto.get_mk (show i<n' by omega),Sto.get_mk hi]at this
theorem mI {n low n' low' m k:Nat} {o o':Tr AObj} (h:Sim ⟨n,low,o⟩ ⟨n',low',o'⟩) (hm:m<=n):jA (iD m k) ⟨n,low,o⟩ ⟨n',low',o'⟩:=fun id hid=>h.2 id (Nat.lt_of_lt_of_le hid (Nat.le_trans (Nat.min_le_left _ _) hm))
end
end Go.Proofs.YtginbapbkjhnjaaGreat
/-
 Branches: small differences.
-/
namespace Go.Proofs.YtginbapbkjhnjaaGreat
open Go.Abs Go Go.Abs.TryzF
noncomputable section
set_option maxRecDepth 10000
end
end Go.Proofs.YtginbapbkjhnjaaGreat
