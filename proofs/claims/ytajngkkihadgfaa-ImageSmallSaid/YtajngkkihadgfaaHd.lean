/-
  The reference of images: objects that can be stored, their bytes; objects compared.
-/
import Derived.Test.YtajngkkihadgfaaHa
import Derived.Test.YtajngkkihadgfaaEp
set_option linter.unusedVariables false
set_option linter.unusedSimpArgs false
namespace Go.Proofs.Ytajngkkihadgfaa
open Go.Abs Go Go.Abs.TryF
noncomputable section
set_option maxRecDepth 10000
def nF:List AV->Option AV
 | [a]=>(fG a).map fun o=>.bool (gV o)
 | _=>none
theorem wV {a:AV} {o:Ob} (h:fG a=some o):nF [a]=some (.bool (gV o)):=by simp [nF,h]
theorem CX {f:Fr} (h:nP f=true):0<=f.node/\f.node<=1073741824/\eF f.env=true/\eF f.vals=true:=by
 simp only [nP,iU,Bool.and_eq_true,decide_eq_true_eq]at h;exact ⟨h.1.1.1,h.1.1.2,h.1.2,h.2⟩
theorem qA {o:Ob} (h:gV o=true):(1<=o.form/\o.form<=6)/\cS o.n=true/\eF o.vals=true/\o.frs.length<=40/\∀ f∈o.frs,nP f=true:=by
 simp only [gV,zV,Bool.and_eq_true,decide_eq_true_eq]at h
 refine ⟨?_,h.1.1.2,h.1.2,h.2.1,List.all_eq_true.1 h.2.2⟩
 have:=h.1.1.1
 simpa [iU] using this
theorem aBr {f:Fr} (h:nP f=true):(AS f).length<=375:=by
 obtain ⟨h1,h2,h3,h4⟩:=CX h
 have e1:=xA h3
 have e2:=xA h4
 have e3:=hG 5 f.node.toNat (by omega) (by omega)
 simp only [AS,List.length_append];omega
end
end Go.Proofs.Ytajngkkihadgfaa
/-
 The reference of images: objects compared;small objects.
-/
namespace Go.Proofs.Ytajngkkihadgfaa
open Go.Abs Go Go.Abs.TryF
noncomputable section
set_option maxRecDepth 10000
theorem lV {α:Type} {d:α} {l m:List α} (h:l.length=m.length) (h':∀ j,j<l.length->l.getD j d=m.getD j d):l=m:=by
 apply List.ext_getElem h
 intro i h1 h2
 have:=h' i h1
 rwa [aT h1,aT h2]at this
theorem aPp (l:List eA) {i:Nat} (h:i<l.length) {q:IntKind} {d:Option AV}:eU (some 2) (l.map fJ) (.int q (i:Nat)) d=some (.pf (fJ (l.getD i default))):=by
 rw [qE aBt (by omega) (by omega)];simp
theorem aLb {f g:Fr} (h1:f.node=g.node) (h2:f.env=g.env) (h3:f.vals=g.vals):f=g:=by cases f;cases g;simp_all
def wW:List AV->Option AV
 | [a]=>(fG a).map fun o=>if gV o=true then .tuple [.str (fZ o),.int .i64 0] else .tuple [.str [],.int .i64 2]
 | _=>none
theorem vD {l:List Nat} {k:IntKind} {x:Int}:Und 0 (.tuple [.str l,.int k x]):=dV (aF fL (aF aV aO))
theorem sJ {a:AV} {o:Ob} (h:fG a=some o):wW [a]=some (if gV o=true then .tuple [.str (fZ o),.int .i64 0] else .tuple [.str [],.int .i64 2]):=by simp [wW,h]
end
end Go.Proofs.Ytajngkkihadgfaa
/-
 The reference of images: its reader.
-/
namespace Go.Proofs.Ytajngkkihadgfaa
open Go.Abs Go Go.Abs.TryF
noncomputable section
set_option maxRecDepth 10000
def rT (l:List Nat) (st:Nat × Bool):Nat × Nat × Bool:=if st.1<l.length then (l.getD st.1 0,st.1+1,st.2) else (0,st.1,true)
def GT (l:List Nat):Nat->Nat->Nat->Nat × Bool->Nat × Nat × Bool
 | 0,_,_,st=>(0,st.1,true)
 | k+1,n,by_,st=>if (rT l st).1<128 then (n+(rT l st).1%128*by_,(rT l st).2) else GT l k (n+(rT l st).1%128*by_) (by_*128) (rT l st).2
def uM (l:List Nat) (st:Nat × Bool):Nat × Nat × Bool:=GT l 5 0 1 st
def sK (n:Nat):Int:=if n%2=1 then -((n+1)/2:Nat) else ((n/2:Nat):Int)
def EX (l:List Nat) (st:Nat × Bool):Int × Nat × Bool:=(sK (uM l st).1,(uM l st).2)
theorem le_min {a b c:Nat} (h:a<=b) (h':a<=c):a<=Nat.min b c:=Nat.le_min.2 ⟨h,h'⟩
end
end Go.Proofs.Ytajngkkihadgfaa
