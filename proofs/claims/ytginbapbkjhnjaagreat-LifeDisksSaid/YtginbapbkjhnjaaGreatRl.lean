/-
  Points: Slice of the program.
-/
import Derived.Test.YtginbapbkjhnjaaGreatRa
set_option linter.unusedVariables false
set_option linter.unusedSimpArgs false
namespace Go.Proofs.YtginbapbkjhnjaaGreat
open Go.Abs Go Go.Abs.TryzF
noncomputable section
set_option maxRecDepth 10000
section
variable {p os ts us is no ns fs mm cs os' ts' us' is' no' d g:AV}
end
end
end Go.Proofs.YtginbapbkjhnjaaGreat
/-
 The reference of points: an object is copied.
-/
namespace Go.Abs
noncomputable section
end
end Go.Abs
namespace Go.Proofs.YtginbapbkjhnjaaGreat
open Go.Abs Go Go.Abs.TryzF
noncomputable section
set_option maxRecDepth 10000
section
variable {os ts us is no os' ts' us' is' no' d g:AV}
end
end
end Go.Proofs.YtginbapbkjhnjaaGreat
/-
 The reference of points: Slice.
-/
namespace Go.Abs
noncomputable section
variable {P:Program}
theorem eV {L:List kY} (hL:∀ x∈L,cT P x) (H:cG) {f:FuncId} {fn:Func} {c:Code} {N:Nat} {rs:List ResultVar} {args:List AV} {Q:AV->Prop} (hok:okFn P f=true) (hf:P.funcs[f]?=some fn) (hn:fn.ntmps=N) (hr:fn.results=rs.toArray) (hb:fn.body=some c)
 (ha:Nat.ble args.length N=true) (hu:∀ x∈args,Und 0 x)
 (h:Wk P (bR L) H c ⟨N,none,f,Tr.leaf.lay 0 args,[],⟨0,0,.leaf⟩,.no⟩ (kJ P rs (fun S r=>∃ v,Frz S 0 r v/\Q v) fun _ _=>False)):∃ v,Q v/\Returns P f args v:=by
 obtain ⟨n,ex,e,hc,hQ⟩:=h.sound
 have hend:e.ds=[]/\e.r=.no/\qM (aM P e rs) (fun S r=>∃ v,Frz S 0 r v/\Q v) e.s/\(ex=.normal∨ex=.ret):=by
  cases ex with
  | normal=>exact ⟨hQ.1,hQ.2.1,hQ.2.2,.inl rfl⟩
  | ret=>exact ⟨hQ.1,hQ.2.1,hQ.2.2,.inr rfl⟩
  | panic v=>exact hQ.2.2.elim
  | exit id=>exact hQ.elim
  | _=>exact hQ.elim
 obtain ⟨h1,h2,⟨vs,h3,v,h4,h6⟩,h5⟩:=hend
 refine ⟨v,h6,tT hL hok hf hn hr hb ha hu ⟨n,ex,e,hc,?_⟩⟩
 rcases h5 with rfl | rfl
 ·exact ⟨h1,h2,vs,h3,h4⟩
 ·exact ⟨h1,h2,vs,h3,h4⟩
end
end Go.Abs
namespace Go.Proofs.YtginbapbkjhnjaaGreat
open Go.Abs Go Go.Abs.TryzF
noncomputable section
set_option maxRecDepth 10000
section
variable {p os ts us is no os' ts' us' is' no' d g:AV}
end
end
end Go.Proofs.YtginbapbkjhnjaaGreat
namespace Go.Abs
noncomputable section
variable {P:Program}
variable {O:Orc} {H:cG}
end
end Go.Abs
namespace Go.Proofs.YtginbapbkjhnjaaGreat
open Go.Abs Go Go.Abs.TryzF
noncomputable section
set_option maxRecDepth 10000
section
variable {p os ts us is no os' ts' us' is' no' d g:AV}
def AcI (lo:Nat) (v:AV) (u:Sto) (R:List AV):Prop:=(R=[]/\v=.nils)∨(R≠[]/\∃ id g,v=.sl id g 0 R.length (.room 1)/\u.get id=some (aT g R)/\lo<=id)
theorem AcI.keep {lo:Nat} {v:AV} {u u':Sto} {R:List AV} (h:AcI lo v u R) (hk:∀ id,lo<=id->id<u.n->u'.get id=u.get id):AcI lo v u' R:=by
 rcases h with h | ⟨h0,id,g,h1,h2,h3⟩
 ·exact .inl h
 ·exact .inr ⟨h0,id,g,h1,by rw [hk id h3 (Sto.get_lt h2)];exact h2,h3⟩
end
section
variable {p os ts us is no os' ts' us' is' no' d g:AV}
end
end
end Go.Proofs.YtginbapbkjhnjaaGreat
