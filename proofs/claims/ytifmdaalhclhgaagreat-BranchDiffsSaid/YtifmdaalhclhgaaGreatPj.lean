/-
  The abstract machine: hints with a number that is not known; copies of worlds whose objects may be turned.
-/
import Derived.Test.YtifmdaalhclhgaaGreatPf
set_option linter.unusedVariables false
set_option linter.unusedSimpArgs false
namespace Go.Abs
noncomputable section
end
end Go.Abs
namespace Go.Proofs.YtifmdaalhclhgaaGreat
open Go.Abs Go Go.Abs.TryzF
noncomputable section
set_option maxRecDepth 10000
end
end Go.Proofs.YtifmdaalhclhgaaGreat
/-
 Worlds: copies of worlds whose objects may be turned.
-/
namespace Go.Proofs.YtifmdaalhclhgaaGreat
open Go.Abs Go Go.Abs.TryzF
noncomputable section
set_option maxRecDepth 10000
end
end Go.Proofs.YtifmdaalhclhgaaGreat
/-
 Points: what must hold,or else.
-/
namespace Go.Proofs.YtifmdaalhclhgaaGreat
open Go.Abs Go Go.Abs.TryzF
noncomputable section
set_option maxRecDepth 10000
end
end Go.Proofs.YtifmdaalhclhgaaGreat
/-
 Points: rows that lie in the store.
-/
namespace Go.Abs
noncomputable section
def StN (lo hi:Nat) (s:Sto) (a:AV) (xs:List AV):Prop:=(a=.nils/\xs=[])∨∃ id g c,a=.sl id g 0 xs.length c/\s.get id=some (bF g (xs.map AV.cells).flatten)/\lo<=id/\id<hi
section
variable {lo hi:Nat} {s:Sto} {a:AV} {xs:List AV}
theorem StN.len (h:StN lo hi s a xs) {s':Sto} {d:Option ORes}:zG (some 1) s' a d=some (.val (.int .i64 (xs.length:Nat))):=by
 rcases h with ⟨rfl,rfl⟩ | ⟨id,g,c,rfl,_,_⟩<;>rfl
theorem StN.cell (h:StN lo hi s a xs):a.isCell=true:=by
 rcases h with ⟨rfl,rfl⟩ | ⟨id,g,c,rfl,_,_⟩<;>rfl
theorem StN.under (h:StN lo hi s a xs):UnderE s.n a:=by
 rcases h with ⟨rfl,_⟩ | ⟨id,g,c,rfl,h,_⟩
 ·exact ⟨1,rfl⟩
 ·exact ⟨1,by simpa [AV.under] using Sto.get_lt h⟩
theorem StN.le {lo' hi':Nat} (h:StN lo hi s a xs) (hl:lo'<=lo) (hh:hi<=hi'):StN lo' hi' s a xs:=by
 rcases h with h | ⟨id,g,c,h1,h2,h3⟩
 ·exact .inl h
 ·exact .inr ⟨id,g,c,h1,h2,Nat.le_trans hl h3.1,Nat.lt_of_lt_of_le h3.2 hh⟩
theorem StN.sim (h:StN lo hi s a xs) {s':Sto} (hs:Sim s s'):StN lo hi s' a xs:=by
 rcases h with h | ⟨id,g,c,h1,h2,h3⟩
 ·exact .inl h
 ·exact .inr ⟨id,g,c,h1,hs.get h2,h3⟩
theorem StN.keep (h:StN lo hi s a xs) {s':Sto} (hs:∀ id,id<s.n->lo<=id->id<hi->s'.get id=s.get id):StN lo hi s' a xs:=by
 rcases h with h | ⟨id,g,c,h1,h2,h3⟩
 ·exact .inl h
 ·exact .inr ⟨id,g,c,h1,by rw [hs id (Sto.get_lt h2) h3.1 h3.2];exact h2,h3⟩
theorem StN.acc {k n low:Nat} {o:Tr AObj} (h:AccM k lo a n o (xs.map AV.cells)):StN lo n ⟨n,low,o⟩ a xs:=by
 rcases h with ⟨h1,rfl⟩ | ⟨_,id,g,rfl,h1,h2,h3⟩
 ·exact .inl ⟨rfl,List.map_eq_nil_iff.1 h1⟩
 ·exact .inr ⟨id,g,.room k,by rw [List.length_map],by rw [Sto.get_mk h2];exact h1,h3,h2⟩
theorem StN.at_ (h:StN lo hi s a xs) {i:Nat} (hil:i<xs.length):∃ id g c,a=.sl id g 0 xs.length c/\s.get id=some (bF g (xs.map AV.cells).flatten)/\lo<=id/\id<hi/\id<s.n:=by
 rcases h with ⟨_,rfl⟩ | ⟨id,g,c,h1,h2,h3⟩
 ·simp at hil
 ·exact ⟨id,g,c,h1,h2,h3.1,h3.2,Sto.get_lt h2⟩
theorem KF (h:∀ x∈xs,x.isCell=true):(xs.map AV.cells).flatten=xs:=by rw [<-List.flatMap_def];exact GV h
end
end
end Go.Abs
namespace Go.Proofs.YtifmdaalhclhgaaGreat
open Go.Abs Go Go.Abs.TryzF
noncomputable section
set_option maxRecDepth 10000
end
end Go.Proofs.YtifmdaalhclhgaaGreat
/-
 The abstract machine: contracts of functions that are left with deferred calls,in any store.
-/
namespace Go.Abs
noncomputable section
variable {P:Program} {O:Orc} {H:dL}
theorem GU {s:Sto} {d:Nat} (h:s.get d=some (.defs (some []))):kM s [.collected d]=some (s.put d (.defs none)):=by simp only [kM,h]
def aHy (P:Program) (rs:List ResultVar) (R:Sto->AV->Prop) (ex:Ex) (e:Env):Prop:=match ex with
 | .normal | .ret=>e.r=.no/\∃ S,kM e.s e.ds=some S/\tY (aQ P {e with ds:=[],s:=S} rs) R S
 | _=>False
end
end Go.Abs
/-
 Worlds: copies of worlds whose objects lie in the store.
-/
namespace Go.Proofs.YtifmdaalhclhgaaGreat
open Go.Abs Go Go.Abs.TryzF
noncomputable section
set_option maxRecDepth 10000
end
end Go.Proofs.YtifmdaalhclhgaaGreat
