/-
  Points: Slice of the program.
-/
import Derived.Test.YtifmdaalhclhgaaGreatRg
import Derived.Test.YtifmdaalhclhgaaGreatRa
set_option linter.unusedVariables false
set_option linter.unusedSimpArgs false
namespace Go.Abs
noncomputable section
variable {P:Program}
theorem xJ {L:List lY} (hL:∀ x∈L,cR P x) (H:dR) {f:FuncId} {fn:Func} {c:Code} {N:Nat} {rs:List ResultVar} {args:List AV} {Q:AV->Prop} (hok:okFn P f=true) (hf:P.funcs[f]?=some fn) (hn:fn.ntmps=N) (hr:fn.results=rs.toArray) (hb:fn.body=some c)
 (ha:Nat.ble args.length N=true) (hu:∀ x∈args,Und 0 x)
 (h:Wk P (bJ L) H c ⟨N,none,f,Tr.leaf.lay 0 args,[],⟨0,0,.leaf⟩,.no⟩ (aKw P rs fun S r=>∃ v,Frz S 0 r v/\Q v)):∃ v,Q v/\Returns P f args v:=by
 have hw:W P (bJ L) c (xX fn f args .empty) (aKw P rs fun S r=>∃ v,Frz S 0 r v/\Q v):=by rw [kH hn ha];exact h.sound
 obtain ⟨n,ex,e,hc,hQ⟩:=hw
 have hrs:fn.results.toList=rs:=by rw [hr]
 have key:(e.r=.no/\∃ S,oV e.s e.ds=some S/\vB (aT P {e with ds:=[],s:=S} rs) (fun S r=>∃ v,Frz S 0 r v/\Q v) S)->∃ v,Q v/\Lv P (bJ L) fn none e (ZB .empty (.ret v none)):=by
  rintro ⟨h0,S,h1,vs,h2,v,h3,h4⟩;exact ⟨v,h4,aGk _ e S rfl h1 (tO rfl (by rw [hrs];exact h2) ⟨h0,lW (Nat.zero_le _) h3⟩)⟩
 cases ex with
 | normal=>
   obtain ⟨v,hv,hl⟩:=key hQ;exact ⟨v,hv,cV hu (AG (O:=bJ L) (pE hL) hok hf hb ⟨n,_,e,hc,hl⟩)⟩
 | ret=>
   obtain ⟨v,hv,hl⟩:=key hQ;exact ⟨v,hv,cV hu (AG (O:=bJ L) (pE hL) hok hf hb ⟨n,_,e,hc,hl⟩)⟩
 | _=>exact hQ.elim
variable {O:Orc} {H:dR}
end
end Go.Abs
namespace Go.Proofs.YtifmdaalhclhgaaGreat
open Go.Abs Go Go.Abs.TryzF
noncomputable section
set_option maxRecDepth 10000
section
variable {p os ts us is no os' ts' us' is' no' d g:AV}
def AcI (lo:Nat) (v:AV) (u:Sto) (R:List AV):Prop:=(R=[]/\v=.nils)∨(R≠[]/\∃ id g,v=.sl id g 0 R.length (.room 1)/\u.get id=some (bA g R)/\lo<=id)
theorem AcI.keep {lo:Nat} {v:AV} {u u':Sto} {R:List AV} (h:AcI lo v u R) (hk:∀ id,lo<=id->id<u.n->u'.get id=u.get id):AcI lo v u' R:=by
 rcases h with h | ⟨h0,id,g,h1,h2,h3⟩
 ·exact .inl h
 ·exact .inr ⟨h0,id,g,h1,by rw [hk id h3 (Sto.get_lt h2)];exact h2,h3⟩
end
section
variable {p os ts us is no os' ts' us' is' no' d g:AV}
end
end
end Go.Proofs.YtifmdaalhclhgaaGreat
