/-
  The abstract machine: a law with arguments.
-/
import Derived.Test.YtajngkkihadgfaaEj
import Derived.ChangeStays
set_option linter.unusedVariables false
set_option linter.unusedSimpArgs false
namespace Go.Abs
open Go.ChangeShapes
noncomputable section
theorem NF {P:Program}:∀ (fs:List Field) (off N:Nat),sO P off fs=some N->
 N=off+(fs.map fun f=>P.cellsOf f.type).sum/\∀ (j:Nat) f,fs[j]?=some f->f.offset=off+((fs.take j).map fun f=>P.cellsOf f.type).sum:=by
 intro fs
 induction fs with
 | nil=>intro off N h;simp only [sO,Option.some.injEq]at h;subst h;simp
 | cons f fs ih=>
   intro off N h
   simp only [sO]at h
   split at h
   ·rename_i k hk
    cases hb:(Nat.beq f.offset off&&Nat.beq (P.cellsOf f.type) (kE k)) with
    | false=>rw [hb]at h;cases h
    | true=>
      rw [hb]at h
      simp only [cond_true]at h
      simp only [Bool.and_eq_true]at hb
      have e1:=Nat.eq_of_beq_eq_true hb.1
      have e2:=Nat.eq_of_beq_eq_true hb.2
      obtain ⟨g1,g2⟩:=ih _ _ h
      refine ⟨by simp only [List.map_cons,List.sum_cons];omega,fun j f' hf'=>?_⟩
      cases j with
      | zero=>simp at hf';subst hf';simp [e1]
      | succ j=>
        have:=g2 j f' (by simpa using hf')
        simp only [List.take_succ_cons,List.map_cons,List.sum_cons]
        omega
   ·cases h
theorem QU {P:Program}:Kids P (fun t=>∃ D,plainT P D t=true) where
 pointer:=fun {t e} ⟨D,h⟩ hu=>by cases D with | zero=>cases h | succ D=>simp [plainT,hu]at h
 map:=fun {t k e} ⟨D,h⟩ hu=>by cases D with | zero=>cases h | succ D=>simp [plainT,hu]at h
 slice:=fun {t e} ⟨D,h⟩ hu=>by
  cases D with
  | zero=>cases h
  | succ D=>simp only [plainT,hu,Bool.and_eq_true]at h;exact ⟨D,h.1⟩
 array:=fun {t e n} ⟨D,h⟩ hu=>by
  cases D with
  | zero=>cases h
  | succ D=>
    simp only [plainT,hu,Bool.and_eq_true]at h
    obtain ⟨h1,h2⟩:=h
    split at h2
    ·simp only [Bool.and_eq_true]at h2
     exact ⟨⟨D,h1⟩,by rw [<-Nat.eq_of_beq_eq_true h2.2,<-Nat.eq_of_beq_eq_true h2.1]⟩
    ·cases h2
 struct:=fun {t fs} ⟨D,h⟩ hu=>by
  cases D with
  | zero=>cases h
  | succ D=>
    simp only [plainT,hu,Bool.and_eq_true]at h
    obtain ⟨h1,h2⟩:=h
    split at h2
    ·rename_i N hN
     obtain ⟨g1,g2⟩:=NF _ _ _ hN
     exact ⟨fun f hf=>⟨D,List.all_eq_true.1 h1 f hf⟩,by rw [<-Nat.eq_of_beq_eq_true h2,g1,Nat.zero_add],fun j f hf=>by rw [g2 j f hf,Nat.zero_add]⟩
    ·cases h2
section
variable {P:Program} {H:Type} {enc:TypeId × Value->H} {W W':World}
theorem trod_quiet {sp':Nat->Bool} {t:TypeId} {v:Value} {d:DataW H} {ps:List MemPlace} (hp:∃ D,plainT P D t=true) (h:DataW.Trod enc P W 0 (fun _=>true) true t v d ps) (q:Quiet W W') (hs:∀ p∈ps,sp' p.block=true):
 DataW.Trod enc P W' 0 sp' true t v d ps:=by
 obtain ⟨n,hn⟩:=h
 refine ⟨n,DataW.trod_stays QU (fun {t e} hD hu=>?_) (fun h=>(by cases h)) hp hn (fun p hp'=>?_) hs⟩
 ·obtain ⟨D,h⟩:=hD
  cases D with
  | zero=>cases h
  | succ D=>
    simp only [plainT,hu,Bool.and_eq_true]at h
    obtain ⟨_,h2⟩:=h
    split at h2
    ·simp only [Bool.and_eq_true,Nat.blt_eq]at h2
     rw [Nat.eq_of_beq_eq_true h2.1];exact h2.2
    ·cases h2
 ·have hb:=DataW.trod_lt n t _ _ hn p hp'
  cases p with
  | cell b off=>show W'.cell? _=W.cell? _;simp only [World.cell?,q.heap b hb]
  | map b=>exact q.heap b hb
theorem arg_of {t:TypeId} {v:Value} {d:DataW H} {ps:List MemPlace} {D:Nat} {x:Option Nat} {b0:Nat} (hp:plainT P D t=true) (hk:tyK P t=some x) (hval:Value.okWide P W .any b0 t v) (h:DataW.Trod enc P W 0 (fun _=>true) true t v d ps):
 ∃ as,VR (sigW W) (qD x as) v/\as.length=kE x/\as.all AV.isCell=true/\Shape P D t as:=by
 obtain ⟨n,hn⟩:=h
 obtain ⟨as,h1,h2,h3⟩:=aHb n D t _ _ hn hp
 obtain ⟨k1,k2⟩:=nU hk
 have hcells:P.cellsOf t=kE x:=by
  have:P.cellsOf t=(sZ P t).getD 0:=rfl
  rw [this,k1];rfl
 unfold Value.okWide at hval
 cases hu:P.underlying t with
 | none=>cases D<;>simp [plainT,hu]at hp
 | some td=>
   rw [hu]at hval
   have hagg:zF P t=some (EJ td):=by simp [zF,hu]
   rw [hagg]at k2
   cases D with
   | zero=>cases hp
   | succ D=>
   simp only [plainT,hu]at hp
   cases td with
   | struct fs=>
     obtain ⟨cs,rfl,hsz,_⟩:=hval
     cases x with
     | none=>simp [EJ]at k2
     | some m=>
       have hl:=h1.1
       simp only [Value.cells]at h1 hl
       exact ⟨as,VR.agg_iff.2 ⟨cs,rfl,h1⟩,by rw [hl];simpa [hcells] using hsz,h2,h3⟩
   | array m e=>
     obtain ⟨cs,rfl,hsz,_⟩:=hval
     cases x with
     | none=>simp [EJ]at k2
     | some m=>
       have hl:=h1.1
       simp only [Value.cells]at h1 hl
       exact ⟨as,VR.agg_iff.2 ⟨cs,rfl,h1⟩,by rw [hl];simpa [hcells] using hsz,h2,h3⟩
   | _=>
     cases x with
     | some m=>first | simp [EJ]at k2 | cases hp
     | none=>
       have hone:v.cells.toList=[v]:=by
        simp only [Cell.okWide,Cell.ok,hu]at hval<;>cases v<;>first | rfl | exact hval.elim | (cases hp;done)
       rw [hone]at h1
       obtain ⟨a,rfl⟩:∃ a,as=[a]:=List.length_eq_one_iff.1 h1.1
       exact ⟨[a],h1.2 0 a v rfl rfl,rfl,h2,h3⟩
end
end
end Go.Abs
