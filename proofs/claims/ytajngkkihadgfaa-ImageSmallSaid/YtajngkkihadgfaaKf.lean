/-
  Images, in plain words: changes of one page are noticed.
-/
import Derived.Test.YtajngkkihadgfaaJg
import Derived.Test.YtajngkkihadgfaaKa
set_option linter.unusedVariables false
set_option linter.unusedSimpArgs false
namespace Go.Proofs.Ytajngkkihadgfaa
open Go.Abs Go
set_option maxRecDepth 10000
section
variable {p i j:Nat} {q r:List Nat} (hD:∀ m,m≠i->m≠j->q.getD m 0=r.getD m 0)
include hD
end
end Go.Proofs.Ytajngkkihadgfaa
/-
 Images,in plain words: each object of a saved world is found;what is found when a page was changed.
-/
namespace Go.Proofs.Ytajngkkihadgfaa
open Go.Abs Go
set_option maxRecDepth 10000
theorem AL {s:List Nat} {a k j:Nat}:(aG s a k).getD j 0=if j<k then s.getD (a+j) 0 else 0:=by
 unfold aG
 rw [List.getD_eq_getElem?_getD,List.getElem?_take]
 split
 ·rw [List.getElem?_drop,List.getD_eq_getElem?_getD]
 ·rfl
theorem SP {s t:List Nat} {a k:Nat} (hl:s.length=t.length) (h:∀ x,a<=x->x<a+k->s.getD x 0=t.getD x 0):aG s a k=aG t a k:=by
 refine lV (d:=0) (by simp [aG,hl]) fun j _=>?_
 rw [AL,AL]
 split
 ·exact h _ (by omega) (by omega)
 ·rfl
theorem rP {s:List Nat} {hi:Nat} (hR:∀ i,28*i<hi->cR s i=true):∀ k i l,∃ l',needsGo s hi k i l=some l'
 | 0,_,l=>⟨l,rfl⟩
 | k+1,i,l=>by
   unfold needsGo
   by_cases h:28*i<hi
   ·rw [if_pos h,if_pos (hR i h)];exact rP hR k _ _
   ·rw [if_neg h];exact ⟨l,rfl⟩
theorem aJt {f:Nat->List Nat} (hf:∀ i,(f i).length=2):∀ n k c,k<n->c<2->((List.range n).flatMap f).getD (2*k+c) 0=(f k).getD c 0
 | 0,k,c,h,_=>by omega
 | n+1,k,c,h,hc=>by
   have hl:((List.range n).flatMap f).length=2*n:=by
    clear h
    induction n with
    | zero=>rfl
    | succ n ih=>rw [List.range_succ,List.flatMap_append,List.length_append,ih];simp [hf];omega
   rw [List.range_succ,List.flatMap_append,List.getD_eq_getElem?_getD]
   have h1:(([n]:List Nat).flatMap f)=f n:=by simp
   rw [h1]
   by_cases hk:k<n
   ·rw [List.getElem?_append_left (by omega),<-List.getD_eq_getElem?_getD];exact aJt hf n k c hk hc
   ·rw [List.getElem?_append_right (by omega),hl,show k=n by omega,show 2*n+c-2*n=c by omega,<-List.getD_eq_getElem?_getD]
theorem uI (w:Wd) (n:Nat):(cD w n).length=2*n:=by
 unfold cD
 induction n with
 | zero=>rfl
 | succ n ih=>rw [List.range_succ,List.flatMap_append,List.length_append,ih];simp [BW];omega
theorem jS {w:Wd} {k:Nat} (h:k<w.objs.length):aU w (k+1)=aU w k++fZ (w.objs.getD k default)/\iV w=aU w k++(fZ (w.objs.getD k default)++(w.objs.drop (k+1)).flatMap fZ):=by
 constructor
 ·rw [aU,aU,List.take_succ_eq_append_getElem h,List.flatMap_append,aT h];simp
 ·have e:w.objs=w.objs.take k++(w.objs[k]::w.objs.drop (k+1)):=by rw [<-List.drop_eq_getElem_cons h,List.take_append_drop]
  rw [iV]
  conv=>lhs;rw [e]
  rw [List.flatMap_append,List.flatMap_cons,aT h];rfl
theorem vQ (w:Wd):(aZ w).length=bX w+(iV w).length+(kG w).length:=by
 simp only [aZ,List.length_append,uI,bX];simp [eZ]
theorem rQ {w:Wd} (h:(aZ w).length<=7168) {Z:List Nat} {k:Nat} (hk:k<=w.objs.length):bN (aZ w++Z) (4+2*k)=bX w+(aU w k).length:=by
 have hb:(aU w k).length<=(iV w).length:=by
  have:iV w=aU w k++(w.objs.drop k).flatMap fZ:=by
   rw [iV,aU,<-List.flatMap_append,List.take_append_drop]
  rw [this,List.length_append];omega
 have hsl:=vQ w
 have hat:∀ c,c<2->(aZ w++Z).getD (4+2*k+c) 0=(BW (bX w+(aU w k).length)).getD c 0:=fun c hc=>by
  rw [<-aJt (f:=fun j=>BW (bX w+(aU w j).length)) (fun _=>rfl) (w.objs.length+1) k c (by omega) hc]
  have ht:=uI w (w.objs.length+1)
  simp only [aZ,List.append_assoc]
  rw [List.getD_eq_getElem?_getD,List.getElem?_append_right (by simp [eZ];omega)]
  simp only [eZ,List.length_cons,List.length_nil]
  rw [List.getElem?_append_left (by omega),show 4+2*k+c-(0+1+1+1+1)=2*k+c by omega,<-List.getD_eq_getElem?_getD];rfl
 have h0:=hat 0 (by omega)
 have h1:=hat 1 (by omega)
 unfold bN
 rw [Nat.add_zero]at h0
 rw [h0,h1]
 simp only [BW,List.getD_cons_zero,List.getD_cons_succ]
 omega
theorem SQ {w:Wd} {Z:List Nat} {k:Nat} (hk:k<w.objs.length):aG (aZ w++Z) (bX w+(aU w k).length) (fZ (w.objs.getD k default)).length=fZ (w.objs.getD k default):=by
 have e:aZ w++Z=(eZ w++(cD w (w.objs.length+1)++aU w k))++(fZ (w.objs.getD k default)++((w.objs.drop (k+1)).flatMap fZ++(kG w++Z))):=by
  simp only [aZ,(jS hk).2,List.append_assoc]
 have hl:(eZ w++(cD w (w.objs.length+1)++aU w k)).length=bX w+(aU w k).length:=by
  simp only [List.length_append,uI,bX];simp [eZ];omega
 rw [e,<-hl,aG,List.drop_left' rfl,List.take_left' rfl]
theorem rR {w:Wd} (h:mL w=true):w.objs.length<=120/\∀ k,k<w.objs.length->gV (w.objs.getD k default)=true/\jD (w.objs.length:Nat) (w.objs.getD k default)=true:=by
 unfold mL at h
 simp only [Bool.and_eq_true,decide_eq_true_eq]at h
 obtain ⟨⟨⟨⟨⟨⟨⟨⟨h1,_⟩,_⟩,_⟩,_⟩,h6⟩,_⟩,_⟩,_⟩:=h
 refine ⟨h1,fun k hk=>?_⟩
 have:=List.all_eq_true.1 h6 _ (List.getElem_mem hk)
 rw [aT hk]
 simpa only [sE,Bool.and_eq_true] using this
theorem UZ (o:Ob):0<(fZ o).length:=by simp [fZ]
structure Saved (s:List Nat) (w:Wd):Prop where
 ok:mL w=true
 len:(aZ w).length<=7168
 eq:s=lF (aZ w)
section
variable {s:List Nat} {w:Wd} (hS:Saved s w)
include hS
theorem dQ:aE s=dD (aZ w)/\0<aE s/\aE s<=256:=by
 obtain ⟨h4,h5⟩:=qU hS.len
 rw [hS.eq,uN h4];exact ⟨rfl,h5,h4⟩
theorem AM {i:Nat} (h:i<aE s):cR s i=true:=by
 obtain ⟨h4,h5⟩:=qU hS.len
 have hc:=(dQ hS).1
 unfold cR
 rw [decide_eq_true h,Bool.true_and,hS.eq,mU (by omega)];exact LH _ _
theorem lT:aP s=aZ w++List.replicate (28*aE s-(aZ w).length) 0:=by
 obtain ⟨h4,h5⟩:=qU hS.len
 rw [(dQ hS).1,hS.eq,LI h4]
theorem vR:PD s=true/\(aP s).getD 2 0=w.objs.length:=by
 have h1:=(rR hS.ok).1
 have e:aP s=72::70::(w.objs.length%256)::0::(cD w (w.objs.length+1)++(iV w++(kG w++List.replicate (28*aE s-(aZ w).length) 0))):=by
  rw [lT hS];simp only [aZ,eZ,List.append_assoc,List.cons_append,List.nil_append]
 have e2:(aP s).getD 2 0=w.objs.length:=by rw [e];simp only [List.getD_cons_succ,List.getD_cons_zero];omega
 refine ⟨?_,e2⟩
 unfold PD
 rw [AM hS (dQ hS).2.1,e2,e]
 simp [h1]
theorem SR {k:Nat} (hk:k<w.objs.length):∃ l,findO s k=some (w.objs.getD k default,l):=by
 obtain ⟨h120,hob⟩:=rR hS.ok
 obtain ⟨hc,hc0,_⟩:=dQ hS
 have hR:∀ hi,hi<=(aZ w).length->∀ i,28*i<hi->cR s i=true:=fun hi hh i h=>AM hS (by rw [hc];unfold dD;omega)
 have hsl:=vQ w
 have hbs:=jS hk
 have hb1:(aU w (k+1)).length=(aU w k).length+(fZ (w.objs.getD k default)).length:=by rw [hbs.1,List.length_append]
 have hb2:(aU w (k+1)).length<=(iV w).length:=by rw [hb1,hbs.2,List.length_append,List.length_append];omega
 have hpos:=UZ (w.objs.getD k default)
 have hbn:bX w=4+2*(w.objs.length+1):=rfl
 obtain ⟨l1,e1⟩:=rP (hR (8+2*k) (by omega)) (3000-(4+2*k)/28) ((4+2*k)/28) [0]
 obtain ⟨l2,e2⟩:=rP (hR (bX w+(aU w (k+1)).length) (by omega)) (3000-(bX w+(aU w k).length)/28) ((bX w+(aU w k).length)/28) l1
 refine ⟨l2,?_⟩
 have e1':rS s (4+2*k) (8+2*k) [0]=some l1:=e1
 have e2':rS s (bX w+(aU w k).length) (bX w+(aU w (k+1)).length) l1=some l2:=e2
 unfold findO
 rw [e1']
 simp only
 have hp1:bN (aP s) (4+2*k)=bX w+(aU w k).length:=by rw [lT hS];exact rQ hS.len (by omega)
 have hp2:bN (aP s) (6+2*k)=bX w+(aU w (k+1)).length:=by rw [lT hS,show 6+2*k=4+2*(k+1) by omega];exact rQ hS.len (by omega)
 rw [hp1,hp2,(vR hS).2]
 unfold EO
 rw [if_neg (by omega),e2']
 simp only
 rw [show bX w+(aU w (k+1)).length-(bX w+(aU w k).length)=(fZ (w.objs.getD k default)).length by omega,lT hS,SQ hk,CO (hob k hk).1]
 simp only
 rw [if_pos (hob k hk).2]
theorem PA {k:Nat} (hk:k<w.objs.length):qO s (k:Nat)=AP (findO s k):=by
 have h1:=(rR hS.ok).1
 unfold qO
 rw [if_neg (by have:=(dQ hS).2.1;omega),(vR hS).1,(vR hS).2,if_neg (by simp),if_neg (by simp only [iU,Bool.and_eq_false_iff,decide_eq_false_iff_not];omega)]
 rfl
end
structure Chd (s t:List Nat) (p:Nat):Prop where
 len:t.length=s.length
 same:∀ m,(m<32*p∨32*p+32<=m)->t.getD m 0=s.getD m 0
 bad:cR t p=false
 lt:p<aE s
section
variable {s t:List Nat} {p:Nat} (hC:Chd s t p)
include hC
omit hC in
theorem AN:∀ k i (l l':List Nat) {hi:Nat},needsGo s hi k i l=some l'->∀ x∈l,x∈l'
 | 0,_,l,l',_,h=>by cases h;exact fun _ h=>h
 | k+1,i,l,l',hi,h=>by
   unfold needsGo at h
   split at h
   ·split at h
    ·intro x hx
     exact AN k (i+1) _ l' h x (by unfold fY;split;exact List.mem_append_left _ hx;exact hx)
    ·cases h
   ·cases h;exact fun _ h=>h
omit hC in
theorem yG {hi B:Nat} (hB:∀ i,28*i<hi->i<=B):∀ k i (l l':List Nat),needsGo s hi k i l=some l'->l.getD (l.length-1) 0<=B->l'.getD (l'.length-1) 0<=B
 | 0,_,l,l',h,hl=>by cases h;exact hl
 | k+1,i,l,l',h,hl=>by
   unfold needsGo at h
   split at h
   ·rename_i hh
    split at h
    ·refine yG hB k (i+1) _ l' h ?_
     unfold fY
     split
     ·rw [List.length_append,List.length_singleton,Nat.add_sub_cancel,List.getD_eq_getElem?_getD,List.getElem?_append_right (Nat.le_refl _)];simp [hB i hh]
     ·exact hl
    ·cases h
   ·cases h;exact hl
end
end Go.Proofs.Ytajngkkihadgfaa
/-
 The law 'ImageNoticed': its function returns true.
-/
namespace Go.Proofs.Ytajngkkihadgfaa
open Go.Abs Go Go.Abs.TryF
noncomputable section
set_option maxRecDepth 10000
theorem aEs {s:List Nat} {p:Nat} (h:p<aE s):(aM s p).length=32:=by
 have:32*(p+1)<=s.length:=by unfold aE at h;split at h<;>omega
 simp [aM,aG];omega
end
end Go.Proofs.Ytajngkkihadgfaa
/-
 The law 'ImageNoticed': the walk of its function.
-/
namespace Go.Proofs.Ytajngkkihadgfaa
open Go.Abs Go Go.Abs.TryF
noncomputable section
set_option maxRecDepth 10000
section
variable {a:AV} {w:Wd}
end
theorem ZC {s:Sc} (h:aKc s):((gZ (eD s)).2=3)∨(gZ (eD s)).2=0:=by
 unfold gZ
 rw [if_pos (GB h)]
 split
 ·exact .inr rfl
 ·exact .inl rfl
theorem aEt {w:Wd} (h:mL w=true):nL (VN w)=some w:=by
 have hob:=(rR h).2
 unfold mL at h
 simp only [Bool.and_eq_true,decide_eq_true_eq]at h
 obtain ⟨⟨⟨⟨⟨⟨⟨⟨h1,h2⟩,h3⟩,h4⟩,_⟩,_⟩,_⟩,_⟩,_⟩:=h
 refine aFu (fun o ho=>?_) (by omega) (by omega) (by omega) (by omega)
 obtain ⟨i,hi,rfl⟩:=List.mem_iff_getElem.1 ho
 have:=(hob i hi).1
 rw [aT hi]at this
 exact (zT (CO this)).2.2
theorem ZD {s:List Nat} {k:Nat} {o:Ob} {l:List Nat} (h:findO s k=some (o,l)):l.length<=7000:=by
 unfold findO at h
 cases h1:rS s (4+2*k) (8+2*k) [0] with
 | none=>rw [h1]at h;cases h
 | some l1=>
   rw [h1]at h
   simp only at h
   unfold EO at h
   split at h
   ·cases h
   ·cases h2:rS s (bN (aP s) (4+2*k)) (bN (aP s) (6+2*k)) l1 with
    | none=>rw [h2]at h;cases h
    | some l2=>
      rw [h2]at h
      simp only at h
      cases h3:iQ (aG (aP s) (bN (aP s) (4+2*k)) (bN (aP s) (6+2*k)-bN (aP s) (4+2*k))) with
      | none=>rw [h3]at h;cases h
      | some o'=>
        rw [h3]at h
        simp only at h
        split at h
        ·cases h
         have g1:=(pE _ _ _ _ h1).2.2.2
         have g2:=(pE _ _ _ _ h2).2.2.2
         simp only [List.length_singleton]at g1
         omega
        ·cases h
end
end Go.Proofs.Ytajngkkihadgfaa
/-
 The law 'ImageRound': its function returns true.
-/
namespace Go.Proofs.Ytajngkkihadgfaa
open Go.Abs Go Go.Abs.TryF
noncomputable section
set_option maxRecDepth 10000
section
variable {a b:AV} {v w:Wd}
end
theorem dS {P:Program} {O:bP} {want:Bool} {op:Op} {ops:List Oper} {dst:Option Tmp} {rest:List Oper} {e:Env} {Q:Ex->Env->Prop}:guardK P O AV.undef want op ops dst rest e Q↔bW P O ops dst rest e Q (.val .undef):=.rfl
end
end Go.Proofs.Ytajngkkihadgfaa
