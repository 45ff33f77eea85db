/-
  Branches: what comes after what, and differences, in plain words.
-/
import Derived.Test.YtginbapbkjhnjaaGreatRl
import Derived.Test.YtginbapbkjhnjaaGreatQi
set_option linter.unusedVariables false
set_option linter.unusedSimpArgs false
namespace Go.Proofs.YtginbapbkjhnjaaGreat
open Go.Abs Go Go.Abs.TryzF
noncomputable section
set_option maxRecDepth 10000
end
end Go.Proofs.YtginbapbkjhnjaaGreat
/-
 Branches: what comes after what,in the program.
-/
namespace Go.Abs
noncomputable section
theorem Sl.from {a:AV} {xs:List AV} (hs:Sl a xs) {k:Nat} (hk:∀ x∈xs,x.cells.length=k) {n:Int} (h0:0<=n) (h1:n<=(xs.length:Nat)):
 ∃ b,Sl b (xs.drop n.toNat)/\∀ {P:Program} {t:TypeId} {j:IntKind},kA P t=some k->dX P t a (some (.int j n)) none none=some b:=by
 have hall:(xs.all fun v=>Nat.beq v.cells.length k)=true:=List.all_eq_true.2 fun x hx=>by rw [hk x hx];exact Nat.beq_refl k
 have hlen:(xs.drop n.toNat).length<=9223372036854775807:=by have:=hs.2;simp;omega
 rcases hs.1 with ⟨rfl,rfl⟩ | ⟨c,rfl⟩
 ·refine ⟨.nils,⟨.inl ⟨rfl,by simp⟩,hlen⟩,fun {P t j} he=>?_⟩
  have hn:n=0:=by simp at h1;omega
  subst hn
  rw [yT,he];rfl
 ·refine ⟨.fz (xs.drop n.toNat) (c&&Nat.beq xs.length xs.length),⟨.inr ⟨_,rfl⟩,hlen⟩,fun {P t j} he=>?_⟩
  rw [CE,he]
  show mX k (.fz xs c) (some (.int j n)) none none=_
  have hab':cW (some (.int j n)) 0 xs.length=some n.toNat:=kF h0 h1
  simp only [mX,hab',jN,hall,cond_true,aJ]
  rw [List.take_of_length_le (by simp)]
end
end Go.Abs
namespace Go.Proofs.YtginbapbkjhnjaaGreat
open Go.Abs Go Go.Abs.TryzF
noncomputable section
set_option maxRecDepth 10000
abbrev grA (os ts us is no os' ts' us' is' no':AV):AV:=.agg [os,ts,us,is,no,os',ts',us',is',no']
def UsB (no:AV):Prop:=0<=no.num/\no.num<=1000000000
structure GR (os ts us is no os' ts' us' is' no':AV):Prop where
 w:WG os ts us is no
 s:WG os' ts' us' is' no'
 u:UsB no
 v:UsB no'
theorem EN {a b c d e a' b' c' d' e':AV} (h:UnderE 0 (wg a b c d e)) (h':UnderE 0 (wg a' b' c' d' e')):UnderE 0 (grA a b c d e a' b' c' d' e'):=by
 obtain ⟨n,hn⟩:=h
 obtain ⟨m,hm⟩:=h'
 cases n with
 | zero=>simp [AV.under]at hn
 | succ n=>
 cases m with
 | zero=>simp [AV.under]at hm
 | succ m=>
 have h1:=lI ⟨n+1,hn⟩
 have h2:=lI ⟨m+1,hm⟩
 exact bK fun x hx=>(List.mem_append.1 (show x∈[a,b,c,d,e]++[a',b',c',d',e'] from hx)).elim (h1 x) (h2 x)
theorem GR.und {os ts us is no os' ts' us' is' no':AV} (h:GR os ts us is no os' ts' us' is' no'):Und 0 (grA os ts us is no os' ts' us' is' no'):=(EN h.w.und h.s.und).und
end
end Go.Proofs.YtginbapbkjhnjaaGreat
