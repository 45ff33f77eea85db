/-
  The reference of images: objects that can be stored, their bytes; objects compared.
-/
import Derived.Test.YtajngkkihadgfaaGreatHa
import Derived.Test.YtajngkkihadgfaaGreatEp
set_option linter.unusedVariables false
set_option linter.unusedSimpArgs false
namespace Go.Proofs.YtajngkkihadgfaaGreat
open Go.Abs Go Go.Abs.TryzF
noncomputable section
set_option maxRecDepth 10000
def nM:List AV->Option AV
 | [a]=>(eD a).map fun o=>.bool (iS o)
 | _=>none
theorem wZ {a:AV} {o:Ob} (h:eD a=some o):nM [a]=some (.bool (iS o)):=by simp [nM,h]
theorem DS {f:Fr} (h:oE f=true):0<=f.node/\f.node<=1073741824/\eN f.env=true/\eN f.vals=true:=by
 simp only [oE,jI,Bool.and_eq_true,decide_eq_true_eq]at h;exact ⟨h.1.1.1,h.1.1.2,h.1.2,h.2⟩
theorem xA {o:Ob} (h:iS o=true):(1<=o.form/\o.form<=6)/\dP o.n=true/\eN o.vals=true/\o.frs.length<=40/\∀ f∈o.frs,oE f=true:=by
 simp only [iS,AJ,Bool.and_eq_true,decide_eq_true_eq]at h
 refine ⟨?_,h.1.1.2,h.1.2,h.2.1,List.all_eq_true.1 h.2.2⟩
 have:=h.1.1.1
 simpa [jI] using this
theorem aCv {f:Fr} (h:oE f=true):(yP f).length<=375:=by
 obtain ⟨h1,h2,h3,h4⟩:=DS h
 have e1:=xG h3
 have e2:=xG h4
 have e3:=iA 5 f.node.toNat (by omega) (by omega)
 simp only [yP,List.length_append];omega
end
end Go.Proofs.YtajngkkihadgfaaGreat
/-
 The reference of images: objects compared;small objects.
-/
namespace Go.Proofs.YtajngkkihadgfaaGreat
open Go.Abs Go Go.Abs.TryzF
noncomputable section
set_option maxRecDepth 10000
def DT (P:Program) (t:TypeId):Option (TypeId × TypeId):=match P.underlying t with
 | some (.struct fs)=>bif P.stoodInHeld t||P.eqGuardType P.depth t then none else (match FK fs with
   | [(a,0),(b,1)]=>(match P.underlying a,P.underlying b,tyK P a,tyK P b with
     | some (.int .i64),some (.int .i64),some none,some none=>some (a,b)
     | _,_,_,_=>none)
   | _=>none)
 | _=>none
theorem aCw {P:Program} {t:TypeId} {y:TypeId × TypeId} (h:DT P t=some y) (a b c d:Int):(P.eqGuardType P.depth t=false)/\FL P 10000 t (.agg [.int .i64 a,.int .i64 b]) (.agg [.int .i64 c,.int .i64 d])=some (decide (a=c)&&decide (b=d)):=by
 unfold DT at h
 split at h
 ·rename_i fs hu
  cases hg:(P.stoodInHeld t||P.eqGuardType P.depth t) with
  | true=>rw [hg]at h;cases h
  | false=>
    rw [hg]at h
    simp only [cond_false]at h
    split at h
    ·rename_i ta tb hfl
     split at h
     ·rename_i ua ub ka kb
      simp only [Bool.or_eq_false_iff]at hg
      refine ⟨hg.2,?_⟩
      have h3:∀ n (x z:Int),FL P (n+1) ta (.int .i64 x) (.int .i64 z)=some (decide (x=z)):=fun n x z=>by
       unfold FL
       simp only [ua]
       simp [eW,BT]
      have h4:∀ n (x z:Int),FL P (n+1) tb (.int .i64 x) (.int .i64 z)=some (decide (x=z)):=fun n x z=>by
       unfold FL
       simp only [ub]
       simp [eW,BT]
      have hall:∀ n,FL P (n+1+1) t (.agg [.int .i64 a,.int .i64 b]) (.agg [.int .i64 c,.int .i64 d])=some (decide (a=c)&&decide (b=d)):=by
       intro n
       unfold FL
       simp only [hu,hg.1,cond_false,hfl]
       simp only [aeqs,nP ka,nP kb,ptK]
       have e1:=h3 n a c
       have e2:=h4 n b d
       by_cases hab:a=c
       ·subst hab
        simp [e1,e2]
        by_cases hpq:b=d<;>simp [hpq]
       ·simp [e1,hab]
      exact hall 9998
     ·cases h
    ·cases h
 ·cases h
theorem xB {P:Program} {t:TypeId} {z:TypeId × TypeId} (h:DT P t=some z) {x y:Operand} {v w:eK}:abin P .neq t x y (eH v) (eH w)=some (.bool (!decide (v=w))):=by
 obtain ⟨hg,key⟩:=aCw h v.1 v.2 w.1 w.2
 have:decide (v=w)=(decide (v.1=w.1)&&decide (v.2=w.2)):=by
  by_cases h1:v.1=w.1
  ·by_cases h2:v.2=w.2
   ·have:v=w:=Prod.ext h1 h2
    subst this;simp
   ·have:v≠w:=fun e=>h2 (by rw [e])
    simp [this,h2]
  ·have:v≠w:=fun e=>h1 (by rw [e])
   simp [this,h1]
 rw [this]
 simp only [eH,abin,oR,hg,key];rfl
theorem aKi:DT Tryz.prog 118=some (116,3):=by kernel_rfl
theorem dT {α:Type} {d:α} {l m:List α} (h:l.length=m.length) (h':∀ j,j<l.length->l.getD j d=m.getD j d):l=m:=by
 apply List.ext_getElem h
 intro i h1 h2
 have:=h' i h1
 rwa [bI h1,bI h2]at this
theorem aCx (l:List eK) {i:Nat} (h:i<l.length) {q:IntKind} {d:Option AV}:fA (some 2) (l.map eH) (.int q (i:Nat)) d=some (.pf (eH (l.getD i default))):=by
 rw [NT aDa (by omega) (by omega)];simp
theorem BP {v:eK} {d:Option AV}:pfC (some (some 2)) (eH v) d=some (eH v):=eQ rfl
def iM:List AV->Option AV
 | [a,b]=>match cB a,cB b with
   | some l,some m=>some (.bool (decide (l=m)))
   | _,_=>none
 | _=>none
theorem nE {a b:AV} {l m:List eK} (h:cB a=some l) (h':cB b=some m):iM [a,b]=some (.bool (decide (l=m))):=by simp [iM,h,h']
def rL:List AV->Option AV
 | [a,b]=>match eD a,eD b with
   | some l,some m=>some (.bool (decide (l=m)))
   | _,_=>none
 | _=>none
theorem DU {a b:AV} {l m:Ob} (h:eD a=some l) (h':eD b=some m):rL [a,b]=some (.bool (decide (l=m))):=by simp [rL,h,h']
theorem aMf {f g:Fr} (h1:f.node=g.node) (h2:f.env=g.env) (h3:f.vals=g.vals):f=g:=by cases f;cases g;simp_all
def xC:List AV->Option AV
 | [a]=>(eD a).map fun o=>if iS o=true then .tuple [.str (lJ o),.int .i64 0] else .tuple [.str [],.int .i64 2]
 | _=>none
theorem aCy {l:List Nat} {k:IntKind} {x:Int}:Und 0 (.tuple [.str l,.int k x]):=dH (aE lY (aE aU aH))
theorem NH {a:AV} {o:Ob} (h:eD a=some o):xC [a]=some (if iS o=true then .tuple [.str (lJ o),.int .i64 0] else .tuple [.str [],.int .i64 2]):=by simp [xC,h]
end
end Go.Proofs.YtajngkkihadgfaaGreat
/-
 The reference of images: its reader.
-/
namespace Go.Proofs.YtajngkkihadgfaaGreat
open Go.Abs Go Go.Abs.TryzF
noncomputable section
set_option maxRecDepth 10000
def sP (l:List Nat) (st:Nat × Bool):Nat × Nat × Bool:=if st.1<l.length then (l.getD st.1 0,st.1+1,st.2) else (0,st.1,true)
def HQ (l:List Nat):Nat->Nat->Nat->Nat × Bool->Nat × Nat × Bool
 | 0,_,_,st=>(0,st.1,true)
 | k+1,n,by_,st=>if (sP l st).1<128 then (n+(sP l st).1%128*by_,(sP l st).2) else HQ l k (n+(sP l st).1%128*by_) (by_*128) (sP l st).2
def uX (l:List Nat) (st:Nat × Bool):Nat × Nat × Bool:=HQ l 5 0 1 st
def tA (n:Nat):Int:=if n%2=1 then -((n+1)/2:Nat) else ((n/2:Nat):Int)
def GG (l:List Nat) (st:Nat × Bool):Int × Nat × Bool:=(tA (uX l st).1,(uX l st).2)
theorem le_min {a b c:Nat} (h:a<=b) (h':a<=c):a<=Nat.min b c:=Nat.le_min.2 ⟨h,h'⟩
end
end Go.Proofs.YtajngkkihadgfaaGreat
