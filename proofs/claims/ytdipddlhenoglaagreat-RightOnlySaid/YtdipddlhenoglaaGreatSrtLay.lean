/-
  The library's contract of slices.Sort, at this program (the print of lay-plain.mjs).
-/
import Derived.Shelf.SlIterI.Nil
import Derived.Shelf.SortM.Plain
import Derived.Shelf.SortM.SortNone
import Derived.Test.YtdipddlhenoglaaGreatProg
import Derived.KernelRfl
import Derived.Test.YtdipddlhenoglaaGreatZe
set_option linter.unusedVariables false
set_option linter.unusedSimpArgs false
namespace Go.Proofs.YtdipddlhenoglaaGreat
open Go.RowKit Go.Maps Go.Sort Go.Shelf Go Go.Proofs
end Go.Proofs.YtdipddlhenoglaaGreat
/-
 slices.Sort of numbers,by the library's contract.
-/
namespace Go.Abs
end Go.Abs
namespace Go.Proofs.YtdipddlhenoglaaGreat
open Go.Shelf Go.RowKit Go.Sort Go Go.Proofs Go.Abs
variable {P:Program} {ρ:Ren}
def eS (a:List Int):List AV:=a.map (.int .i64)
def aOc (a:List Int):List Int:=a.mergeSort fun x y=>decide (x<=y)
end Go.Proofs.YtdipddlhenoglaaGreat
/-
 slices.AppendSeq,slices.Collect and slices.Sorted,at a function that goes through numbers.
-/
namespace Go.Proofs.YtdipddlhenoglaaGreat
open Go.Abs Go Go.Abs.TryzF
noncomputable section
set_option maxRecDepth 10000
def StR (lo:Nat) (v:AV) (vs:List AV) (S:Sto):Prop:=(vs=[]/\v=.nils)∨(vs≠[]/\∃ id g,v=.sl id g 0 vs.length (.room 1)/\S.get id=some (aR g vs)/\lo<=id)
theorem StR.sim {lo:Nat} {v:AV} {vs:List AV} {S a:Sto} (h:StR lo v vs S) (f:Sim S a):StR lo v vs a:=h.imp (fun h=>h) fun ⟨b,id,g,c,d,e⟩=>⟨b,id,g,c,f.get d,e⟩
def AcJ (s:Sto) (vs:List AV) (i:Nat) (Y:Nat->Prop) (u:Sto):Prop:=(∀ id,id<s.n->u.get id=s.get id)/\s.n<u.n/\(∀ id,Y id->s.n<id)/\∃ v,u.get s.n=some (aR 0 [v])/\((i=0/\v=.nils)∨(i≠0/\∃ id g,v=.sl id g 0 i (.room 1)/\u.get id=some (aR g (vs.take i))/\s.n+1+1<id/\¬ Y id))
theorem AcJ.step {s:Sto} {vs:List AV} {i:Nat} {Y f:Nat->Prop} {u e:Sto} (h:AcJ s vs i Y u) (c:StepX (fun id=>id=s.n+1+1) Y f u e):AcJ s vs i f e:=by
 obtain ⟨m,d,l,v,o,b⟩:=h
 have k:∀ id,id<=s.n->e.get id=u.get id:=fun id a=>c.2.2.2 id (Nat.lt_of_le_of_lt a d) (fun y=>by have:=l id y;omega) (by show ¬ id=s.n+1+1;omega)
 refine ⟨fun id a=>(k id (Nat.le_of_lt a)).trans (m id a),Nat.lt_of_lt_of_le d c.2.2.1,fun id a=>(c.2.1 id a).elim (l id) fun h=>Nat.lt_of_lt_of_le d h.1,v,(k _ (Nat.le_refl _)).trans o,?_⟩
 rcases b with b | ⟨b,id,g,p,q,r,w⟩
 ·exact .inl b
 ·obtain ⟨A,B⟩:=c.get q w (by show ¬ id=s.n+1+1;omega)
  exact .inr ⟨b,id,g,p,A,r,B⟩
section
variable {O:bP} {fv:AV} {vs:List AV} {s:Sto} {K:CRes->Prop}
end
end
end Go.Proofs.YtdipddlhenoglaaGreat
