/-
  Copies of rows and of worlds that lie in what is new, and can be appended to.
-/
import Derived.Test.YtginbapbkjhnjaaGreatSd
set_option linter.unusedVariables false
set_option linter.unusedSimpArgs false
namespace Go.Abs
noncomputable section
def CapS (k lo:Nat) (v:AV) (n:Nat) (o:Tr AObj) (xs:List AV):Prop:=
 (xs=[]/\v=.nils)∨(∃ id g,v=.sl id g 0 xs.length (.room k)/\xs≠[]/\o.get id=some (bB g (xs.map AV.cells).flatten)/\id<n/\lo<=id)∨(∃ id,xs=[]/\v=.sl id 0 0 0 (.is 0)/\o.get id=some (bB 0 [])/\id<n/\lo<=id)
theorem CapS.cell {k lo n:Nat} {v:AV} {o:Tr AObj} {xs:List AV} (h:CapS k lo v n o xs):v.isCell=true:=by
 rcases h with ⟨_,rfl⟩ | ⟨_,_,rfl,_⟩ | ⟨_,_,rfl,_⟩<;>rfl
theorem CapS.under {k lo n:Nat} {v:AV} {o:Tr AObj} {xs:List AV} (h:CapS k lo v n o xs):UnderE n v:=by
 rcases h with ⟨_,rfl⟩ | ⟨_,_,rfl,_,_,h,_⟩ | ⟨_,_,rfl,_,h,_⟩
 ·exact ⟨1,rfl⟩
 ·exact ⟨1,by simpa [AV.under] using h⟩
 ·exact ⟨1,by simpa [AV.under] using h⟩
theorem CapS.keep {k lo n n':Nat} {v:AV} {o o':Tr AObj} {xs:List AV} (h:CapS k lo v n o xs) (hn:n<=n') (hs:∀ id,lo<=id->id<n->o'.get id=o.get id):CapS k lo v n' o' xs:=by
 rcases h with h | ⟨id,g,h1,h2,h3,h4,h5⟩ | ⟨id,h1,h2,h3,h4,h5⟩
 ·exact .inl h
 ·exact .inr (.inl ⟨id,g,h1,h2,by rw [hs id h5 h4];exact h3,Nat.lt_of_lt_of_le h4 hn,h5⟩)
 ·exact .inr (.inr ⟨id,h1,h2,by rw [hs id h5 h4];exact h3,Nat.lt_of_lt_of_le h4 hn,h5⟩)
theorem CapS.acc {k lo n:Nat} {v:AV} {o:Tr AObj} {xs:List AV} (h:AccM k lo v n o (xs.map AV.cells)):CapS k lo v n o xs:=by
 rcases h with ⟨h1,h2⟩ | ⟨h1,id,g,h2,h3,h4,h5⟩
 ·exact .inl ⟨List.map_eq_nil_iff.1 h1,h2⟩
 ·exact .inr (.inl ⟨id,g,by rw [h2,List.length_map],fun e=>h1 (by rw [e];rfl),h3,h4,h5⟩)
end
end Go.Abs
namespace Go.Proofs.YtginbapbkjhnjaaGreat
open Go.Abs Go Go.Abs.TryzF
noncomputable section
set_option maxRecDepth 10000
set_option maxHeartbeats 2000000 in
theorem IX {a:AV} (ha:fF a) (hlen:a.els.length<=1000) (s:Sto):∃ S v,(s.n<=S.low/\Sim s S/\CapS 1 s.n v S.n S.o a.els)/\bP Tryz.prog 97 [a] s (.ret v (some {S with low:=Nat.min s.low S.low})):=by
 obtain ⟨xs,hs,hxs⟩:=ha
 rw [hs.els]at hlen ⊢
 refine mF (L:=[]) aG aO (by kernel_rfl) Tryz.func97 Tryz.ntmps97 Tryz.results97 rfl rfl ?_
 obtain ⟨n0,low0,o0⟩:=s
 rcases hs.1 with ⟨rfl,rfl⟩ | ⟨c,rfl⟩
 ·simp +contextual +decide (maxSteps:=1000000) only [↓ wP,wQ,tf,Nat.reduceAdd,wS,reduceCtorEq,aEr]
  exact ⟨Sim.low _ _,.inl ⟨rfl,rfl⟩⟩
 ·have hcell:∀ x∈xs,x.cells.length=1/\x.cells.all AV.isCell=true:=fun x hx=>by
   rw [dH (tu_int x (hxs x hx)).2];exact ⟨rfl,by simp [(tu_int x (hxs x hx)).2]⟩
  have hy:=fun {s:Sto}=>rY (s:=s) (c:=c) hcell
  have hall:(xs.flatMap AV.cells).all AV.isCell=true:=List.all_eq_true.2 fun y hy=>by
   obtain ⟨x,hx,hy⟩:=List.mem_flatMap.1 hy
   exact List.all_eq_true.1 (hcell x hx).2 y hy
  by_cases h0:xs.length=0
  ·have:xs=[]:=List.length_eq_zero_iff.1 h0
   subst this
   have hap:=iF (s:=⟨n0+1,n0,o0.set n0 (bB 0 [])⟩) (k:=1) (by_:=8) (id:=n0) (by rw [Sto.get_mk (by omega)];exact Tr.get_set_same _ _ _)
   simp +contextual +decide (maxSteps:=1000000) only [↓ wP,wQ,tf,Nat.reduceAdd,wS,reduceCtorEq,aCw,hy,hap,List.length_nil,List.flatMap_nil,Sto.put_any]
   refine ⟨by rw [show n0.min n0=n0 from Nat.min_self n0];exact Nat.le_refl _,⟨Nat.le_succ _,fun id hid=>?_⟩,.inr (.inr ⟨n0,rfl,rfl,Tr.get_set_same _ _ _,Nat.lt_succ_self _,Nat.le_refl _⟩)⟩
   have hid':id<n0:=hid
   rw [Sto.get_mk (show id<n0+1 by omega),Sto.get_mk hid',Tr.get_set_ne _ _ (by omega),Tr.get_set_ne _ _ (by omega)]
  ·have hap:=jX (s:=⟨n0+1,n0,o0.set n0 (bB 0 [])⟩) (k:=1) (by_:=8) (id:=n0) (n:=xs.length) (new:=xs.flatMap AV.cells) (by rw [Sto.get_mk (by omega)];exact Tr.get_set_same _ _ _) h0 (by omega) hall
   simp +contextual +decide (maxSteps:=1000000) only [↓ wP,wQ,tf,Nat.reduceAdd,wS,reduceCtorEq,aCw,hy,hap,Sto.push_mk]
   refine ⟨⟨show n0<=n0+1+1 by omega,fun id hid=>?_⟩,.inr (.inl ⟨n0+1,0,rfl,fun e=>h0 (by rw [e];rfl),by rw [<-List.flatMap_def];exact Tr.get_set_same _ _ _,by show n0+1<n0+1+1;omega,by show n0<=n0+1;omega⟩)⟩
   have hid':id<n0:=hid
   rw [Sto.get_mk (show id<n0+1+1 by omega),Sto.get_mk hid',Tr.get_set_ne _ _ (by omega),Tr.get_set_ne _ _ (by omega)]
set_option maxHeartbeats 2000000 in
theorem IY {a:AV} (ha:TSl oP a) (hlen:a.els.length<=1000) (s:Sto):∃ S v,(s.n<=S.low/\Sim s S/\CapS 2 s.n v S.n S.o a.els)/\bP Tryz.prog 98 [a] s (.ret v (some {S with low:=Nat.min s.low S.low})):=by
 obtain ⟨xs,hs,hxs⟩:=ha
 rw [hs.els]at hlen ⊢
 refine mF (L:=[]) aG aO (by kernel_rfl) Tryz.func98 Tryz.ntmps98 Tryz.results98 rfl rfl ?_
 obtain ⟨n0,low0,o0⟩:=s
 rcases hs.1 with ⟨rfl,rfl⟩ | ⟨c,rfl⟩
 ·simp +contextual +decide (maxSteps:=1000000) only [↓ wP,wQ,tf,Nat.reduceAdd,wS,reduceCtorEq,aEs]
  exact ⟨Sim.low _ _,.inl ⟨rfl,rfl⟩⟩
 ·have hcell:∀ x∈xs,x.cells.length=2/\x.cells.all AV.isCell=true:=fun x hx=>by
   obtain ⟨_,cs,rfl,h1,h2⟩:=tk_out x (hxs x hx);exact ⟨h1,h2⟩
  have hy:=fun {s:Sto}=>rY (s:=s) (c:=c) hcell
  have hall:(xs.flatMap AV.cells).all AV.isCell=true:=List.all_eq_true.2 fun y hy=>by
   obtain ⟨x,hx,hy⟩:=List.mem_flatMap.1 hy
   exact List.all_eq_true.1 (hcell x hx).2 y hy
  by_cases h0:xs.length=0
  ·have:xs=[]:=List.length_eq_zero_iff.1 h0
   subst this
   have hap:=iF (s:=⟨n0+1,n0,o0.set n0 (bB 0 [])⟩) (k:=2) (by_:=16) (id:=n0) (by rw [Sto.get_mk (by omega)];exact Tr.get_set_same _ _ _)
   simp +contextual +decide (maxSteps:=1000000) only [↓ wP,wQ,tf,Nat.reduceAdd,wS,reduceCtorEq,aCx,hy,hap,List.length_nil,List.flatMap_nil,Sto.put_any]
   refine ⟨by rw [show n0.min n0=n0 from Nat.min_self n0];exact Nat.le_refl _,⟨Nat.le_succ _,fun id hid=>?_⟩,.inr (.inr ⟨n0,rfl,rfl,Tr.get_set_same _ _ _,Nat.lt_succ_self _,Nat.le_refl _⟩)⟩
   have hid':id<n0:=hid
   rw [Sto.get_mk (show id<n0+1 by omega),Sto.get_mk hid',Tr.get_set_ne _ _ (by omega),Tr.get_set_ne _ _ (by omega)]
  ·have hap:=jX (s:=⟨n0+1,n0,o0.set n0 (bB 0 [])⟩) (k:=2) (by_:=16) (id:=n0) (n:=xs.length) (new:=xs.flatMap AV.cells) (by rw [Sto.get_mk (by omega)];exact Tr.get_set_same _ _ _) h0 (by omega) hall
   simp +contextual +decide (maxSteps:=1000000) only [↓ wP,wQ,tf,Nat.reduceAdd,wS,reduceCtorEq,aCx,hy,hap,Sto.push_mk]
   refine ⟨⟨show n0<=n0+1+1 by omega,fun id hid=>?_⟩,.inr (.inl ⟨n0+1,0,rfl,fun e=>h0 (by rw [e];rfl),by rw [<-List.flatMap_def];exact Tr.get_set_same _ _ _,by show n0+1<n0+1+1;omega,by show n0<=n0+1;omega⟩)⟩
   have hid':id<n0:=hid
   rw [Sto.get_mk (show id<n0+1+1 by omega),Sto.get_mk hid',Tr.get_set_ne _ _ (by omega),Tr.get_set_ne _ _ (by omega)]
theorem cE {n low n' low':Nat} {o o':Tr AObj} (h:Sim ⟨n,low,o⟩ ⟨n',low',o'⟩) {i:Nat} (hi:i<n):o'.get i=o.get i:=by
 have:=h.2 i hi
 have h1:n<=n':=h.1
 rwa [Sto.get_mk (show i<n' by omega),Sto.get_mk hi]at this
theorem pZ {n low n' low' m k:Nat} {o o':Tr AObj} (h:Sim ⟨n,low,o⟩ ⟨n',low',o'⟩) (hm:m<=n):lU (lT m k) ⟨n,low,o⟩ ⟨n',low',o'⟩:=fun id hid=>h.2 id (Nat.lt_of_lt_of_le hid (Nat.le_trans (Nat.min_le_left _ _) hm))
def pl (xs:List AV) (i:Nat):Int:=((xs.getD i .top).fld 0).num
end
end Go.Proofs.YtginbapbkjhnjaaGreat
