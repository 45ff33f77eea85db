/-
  The reference of images: objects that can be stored, their bytes; objects compared.
-/
import Derived.Test.YtajngkkihadgfaaHa
import Derived.Test.YtajngkkihadgfaaEp
set_option linter.unusedVariables false
set_option linter.unusedSimpArgs false
namespace Go.Proofs.Ytajngkkihadgfaa
open Go.Abs Go Go.Abs.TryF
noncomputable section
set_option maxRecDepth 10000
def nF:List AV->Option AV
 | [a]=>(dZ a).map fun o=>.bool (gR o)
 | _=>none
theorem wV {a:AV} {o:Ob} (h:dZ a=some o):nF [a]=some (.bool (gR o)):=by simp [nF,h]
theorem DG {f:Fr} (h:nW f=true):0<=f.node/\f.node<=1073741824/\eP f.env=true/\eP f.vals=true:=by
 simp only [nW,iV,Bool.and_eq_true,decide_eq_true_eq]at h;exact ⟨h.1.1.1,h.1.1.2,h.1.2,h.2⟩
theorem sX {o:Ob} (h:gR o=true):(1<=o.form/\o.form<=6)/\dM o.n=true/\eP o.vals=true/\o.frs.length<=40/\∀ f∈o.frs,nW f=true:=by
 simp only [gR,AC,Bool.and_eq_true,decide_eq_true_eq]at h
 refine ⟨?_,h.1.1.2,h.1.2,h.2.1,List.all_eq_true.1 h.2.2⟩
 have:=h.1.1.1
 simpa [iV] using this
theorem QO {f:Fr} (h:nW f=true):(wX f).length<=375:=by
 obtain ⟨h1,h2,h3,h4⟩:=DG h
 have e1:=tA h3
 have e2:=tA h4
 have e3:=gH 5 f.node.toNat (by omega) (by omega)
 simp only [wX,List.length_append];omega
end
end Go.Proofs.Ytajngkkihadgfaa
/-
 The reference of images: objects compared;small objects.
-/
namespace Go.Proofs.Ytajngkkihadgfaa
open Go.Abs Go Go.Abs.TryF
noncomputable section
set_option maxRecDepth 10000
def DH (P:Program) (t:TypeId):Option (TypeId × TypeId):=match P.underlying t with
 | some (.struct fs)=>bif P.stoodInHeld t||P.eqGuardType P.depth t then none else (match EY fs with
   | [(a,0),(b,1)]=>(match P.underlying a,P.underlying b,tyK P a,tyK P b with
     | some (.int .i64),some (.int .i64),some none,some none=>some (a,b)
     | _,_,_,_=>none)
   | _=>none)
 | _=>none
theorem aBp {P:Program} {t:TypeId} {y:TypeId × TypeId} (h:DH P t=some y) (a b c d:Int):(P.eqGuardType P.depth t=false)/\BQ P 10000 t (.agg [.int .i64 a,.int .i64 b]) (.agg [.int .i64 c,.int .i64 d])=some (decide (a=c)&&decide (b=d)):=by
 unfold DH at h
 split at h
 ·rename_i fs hu
  cases hg:(P.stoodInHeld t||P.eqGuardType P.depth t) with
  | true=>rw [hg]at h;cases h
  | false=>
    rw [hg]at h
    simp only [cond_false]at h
    split at h
    ·rename_i ta tb hfl
     split at h
     ·rename_i ua ub ka kb
      simp only [Bool.or_eq_false_iff]at hg
      refine ⟨hg.2,?_⟩
      have h3:∀ n (x z:Int),BQ P (n+1) ta (.int .i64 x) (.int .i64 z)=some (decide (x=z)):=fun n x z=>by
       unfold BQ
       simp only [ua]
       simp [eX,BM]
      have h4:∀ n (x z:Int),BQ P (n+1) tb (.int .i64 x) (.int .i64 z)=some (decide (x=z)):=fun n x z=>by
       unfold BQ
       simp only [ub]
       simp [eX,BM]
      have hall:∀ n,BQ P (n+1+1) t (.agg [.int .i64 a,.int .i64 b]) (.agg [.int .i64 c,.int .i64 d])=some (decide (a=c)&&decide (b=d)):=by
       intro n
       unfold BQ
       simp only [hu,hg.1,cond_false,hfl]
       simp only [aeqs,nH ka,nH kb,ZK]
       have e1:=h3 n a c
       have e2:=h4 n b d
       by_cases hab:a=c
       ·subst hab
        simp [e1,e2]
        by_cases hpq:b=d<;>simp [hpq]
       ·simp [e1,hab]
      exact hall 9998
     ·cases h
    ·cases h
 ·cases h
theorem wW {P:Program} {t:TypeId} {z:TypeId × TypeId} (h:DH P t=some z) {x y:Operand} {v w:eN}:abin P .neq t x y (eI v) (eI w)=some (.bool (!decide (v=w))):=by
 obtain ⟨hg,key⟩:=aBp h v.1 v.2 w.1 w.2
 have:decide (v=w)=(decide (v.1=w.1)&&decide (v.2=w.2)):=by
  by_cases h1:v.1=w.1
  ·by_cases h2:v.2=w.2
   ·have:v=w:=Prod.ext h1 h2
    subst this;simp
   ·have:v≠w:=fun e=>h2 (by rw [e])
    simp [this,h2]
  ·have:v≠w:=fun e=>h1 (by rw [e])
   simp [this,h1]
 rw [this]
 simp only [eI,abin,mP,hg,key];rfl
theorem aJb:DH Try.prog 61=some (59,3):=by kernel_rfl
theorem jC {α:Type} {d:α} {l m:List α} (h:l.length=m.length) (h':∀ j,j<l.length->l.getD j d=m.getD j d):l=m:=by
 apply List.ext_getElem h
 intro i h1 h2
 have:=h' i h1
 rwa [bO h1,bO h2]at this
theorem aBq (l:List eN) {i:Nat} (h:i<l.length) {q:IntKind} {d:Option AV}:eS (some 2) (l.map eI) (.int q (i:Nat)) d=some (.pf (eI (l.getD i default))):=by
 rw [MV aBt (by omega) (by omega)];simp
theorem BI {v:eN} {d:Option AV}:pfC (some (some 2)) (eI v) d=some (eI v):=eK rfl
def iI:List AV->Option AV
 | [a,b]=>match cA a,cA b with
   | some l,some m=>some (.bool (decide (l=m)))
   | _,_=>none
 | _=>none
theorem mV {a b:AV} {l m:List eN} (h:cA a=some l) (h':cA b=some m):iI [a,b]=some (.bool (decide (l=m))):=by simp [iI,h,h']
def rH:List AV->Option AV
 | [a,b]=>match dZ a,dZ b with
   | some l,some m=>some (.bool (decide (l=m)))
   | _,_=>none
 | _=>none
theorem DI {a b:AV} {l m:Ob} (h:dZ a=some l) (h':dZ b=some m):rH [a,b]=some (.bool (decide (l=m))):=by simp [rH,h,h']
theorem aKx {f g:Fr} (h1:f.node=g.node) (h2:f.env=g.env) (h3:f.vals=g.vals):f=g:=by cases f;cases g;simp_all
def qH:List AV->Option AV
 | [a]=>(dZ a).map fun o=>if gR o=true then .tuple [.str (kC o),.int .i64 0] else .tuple [.str [],.int .i64 2]
 | _=>none
theorem aBr {l:List Nat} {k:IntKind} {x:Int}:Und 0 (.tuple [.str l,.int k x]):=dD (aE lS (aE aV aI))
theorem AB {a:AV} {o:Ob} (h:dZ a=some o):qH [a]=some (if gR o=true then .tuple [.str (kC o),.int .i64 0] else .tuple [.str [],.int .i64 2]):=by simp [qH,h]
end
end Go.Proofs.Ytajngkkihadgfaa
/-
 The reference of images: its reader.
-/
namespace Go.Proofs.Ytajngkkihadgfaa
open Go.Abs Go Go.Abs.TryF
noncomputable section
set_option maxRecDepth 10000
def sJ (l:List Nat) (st:Nat × Bool):Nat × Nat × Bool:=if st.1<l.length then (l.getD st.1 0,st.1+1,st.2) else (0,st.1,true)
def HC (l:List Nat):Nat->Nat->Nat->Nat × Bool->Nat × Nat × Bool
 | 0,_,_,st=>(0,st.1,true)
 | k+1,n,by_,st=>if (sJ l st).1<128 then (n+(sJ l st).1%128*by_,(sJ l st).2) else HC l k (n+(sJ l st).1%128*by_) (by_*128) (sJ l st).2
def uU (l:List Nat) (st:Nat × Bool):Nat × Nat × Bool:=HC l 5 0 1 st
def sY (n:Nat):Int:=if n%2=1 then -((n+1)/2:Nat) else ((n/2:Nat):Int)
def FQ (l:List Nat) (st:Nat × Bool):Int × Nat × Bool:=(sY (uU l st).1,(uU l st).2)
theorem le_min {a b c:Nat} (h:a<=b) (h':a<=c):a<=Nat.min b c:=Nat.le_min.2 ⟨h,h'⟩
end
end Go.Proofs.Ytajngkkihadgfaa
