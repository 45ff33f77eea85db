/-
  Rows that can be appended to, each in its own part of the store.
-/
import Derived.Test.YtginbapbkjhnjaaGreatTa
set_option linter.unusedVariables false
set_option linter.unusedSimpArgs false
namespace Go.Abs
noncomputable section
def CapR (k:Nat) (X:Nat->Prop) (v:AV) (n:Nat) (o:Tr AObj) (xs:List AV):Prop:=
 (xs=[]/\v=.nils)∨(∃ id g,v=.sl id g 0 xs.length (.room k)/\o.get id=some (bB g (xs.map AV.cells).flatten)/\id<n/\X id)∨(∃ id,xs=[]/\v=.sl id 0 0 0 (.is 0)/\o.get id=some (bB 0 [])/\id<n/\X id)
theorem CapS.capR {k lo n:Nat} {v:AV} {o:Tr AObj} {xs:List AV} (h:CapS k lo v n o xs):CapR k (fun id=>lo<=id/\id<n) v n o xs:=by
 rcases h with h | ⟨id,g,h1,h2,h3,h4,h5⟩ | ⟨id,h1,h2,h3,h4,h5⟩
 ·exact .inl h
 ·exact .inr (.inl ⟨id,g,h1,h3,h4,h5,h4⟩)
 ·exact .inr (.inr ⟨id,h1,h2,h3,h4,h5,h4⟩)
theorem CapR.cell {k n:Nat} {X:Nat->Prop} {v:AV} {o:Tr AObj} {xs:List AV} (h:CapR k X v n o xs):v.isCell=true:=by
 rcases h with ⟨_,rfl⟩ | ⟨_,_,rfl,_⟩ | ⟨_,_,rfl,_⟩<;>rfl
theorem CapR.under {k n:Nat} {X:Nat->Prop} {v:AV} {o:Tr AObj} {xs:List AV} (h:CapR k X v n o xs):UnderE n v:=by
 rcases h with ⟨_,rfl⟩ | ⟨_,_,rfl,_,h,_⟩ | ⟨_,_,rfl,_,h,_⟩
 ·exact ⟨1,rfl⟩
 ·exact ⟨1,by simpa [AV.under] using h⟩
 ·exact ⟨1,by simpa [AV.under] using h⟩
theorem CapR.keep {k n n':Nat} {X:Nat->Prop} {v:AV} {o o':Tr AObj} {xs:List AV} (h:CapR k X v n o xs) (hn:n<=n') (hs:∀ id,X id->id<n->o'.get id=o.get id):CapR k X v n' o' xs:=by
 rcases h with h | ⟨id,g,h1,h3,h4,h5⟩ | ⟨id,h1,h2,h3,h4,h5⟩
 ·exact .inl h
 ·exact .inr (.inl ⟨id,g,h1,by rw [hs id h5 h4];exact h3,Nat.lt_of_lt_of_le h4 hn,h5⟩)
 ·exact .inr (.inr ⟨id,h1,h2,by rw [hs id h5 h4];exact h3,Nat.lt_of_lt_of_le h4 hn,h5⟩)
theorem oT {k:Nat} {xs:List AV} (hc:∀ x∈xs,x.cells.length=k/\x.cells.all AV.isCell=true):(xs.map AV.cells).flatten.all AV.isCell=true/\(xs.map AV.cells).flatten.length=xs.length*k:=by
 constructor
 ·refine List.all_eq_true.2 fun y hy=>?_
  obtain ⟨l,hl,hy⟩:=List.mem_flatten.1 hy
  obtain ⟨x,hx,rfl⟩:=List.mem_map.1 hl
  exact List.all_eq_true.1 (hc x hx).2 y hy
 ·rw [iW (k:=k) (xs.map AV.cells) fun x hx=>by obtain ⟨y,hy,rfl⟩:=List.mem_map.1 hx;exact (hc y hy).1,List.length_map]
theorem aDz {k:Nat} {a:AV} {xs:List AV} (h:Sl a xs) (hc:∀ x∈xs,x.cells.length=k/\x.cells.all AV.isCell=true) {s:Sto}:AY s k a=some (xs.length,(xs.map AV.cells).flatten):=by
 rcases h.1 with ⟨rfl,rfl⟩ | ⟨c,rfl⟩
 ·rfl
 ·rw [rY hc,<-List.flatMap_def]
theorem CapR.app {k by_ n low:Nat} {X:Nat->Prop} {v:AV} {o:Tr AObj} {xs ys:List AV} (h:CapR k X v n o xs) (hx:∀ x∈xs,x.cells.length=k/\x.cells.all AV.isCell=true) (hy:∀ x∈ys,x.cells.length=k/\x.cells.all AV.isCell=true) (hr:(2*(xs.length+ys.length)+1024)*by_<=281474976710656/\xs.length+ys.length<4611686018427387904):
 ∃ v' n' low' o',(((∀ s,apF s k by_ v (some (ys.length,(ys.map AV.cells).flatten))=some (.val v'))/\n'=n/\low'=low/\o'=o)∨apF ⟨n,low,o⟩ k by_ v (some (ys.length,(ys.map AV.cells).flatten))=some (.val' v' ⟨n',low',o'⟩))/\CapR k (fun id=>X id∨id=n) v' n' o' (xs++ys)/\n<=n'/\n'<=n+1/\(∀ id,id<n->¬ X id->o'.get id=o.get id):=by
 obtain ⟨c1,c2⟩:=oT hx
 obtain ⟨d1,d2⟩:=oT hy
 rcases h with ⟨rfl,rfl⟩ | ⟨id,g,rfl,h3,h4,h5⟩ | ⟨id,rfl,rfl,h3,h4,h5⟩
 ·by_cases h0:ys.length=0
  ·have:ys=[]:=List.length_eq_zero_iff.1 h0
   subst this
   exact ⟨.nils,n,low,o,.inl ⟨fun s=>QT,rfl,rfl,rfl⟩,.inl ⟨rfl,rfl⟩,Nat.le_refl _,Nat.le_succ _,fun _ _ _=>rfl⟩
  ·have:=GO (s:=⟨n,low,o⟩) (k:=k) (by_:=by_) h0 (by simpa using hr) d1
   exact ⟨.sl n 0 0 ys.length (.room k),n+1,low,o.set n (ob (ys.map AV.cells).flatten),.inr this,.inr (.inl ⟨n,0,rfl,Tr.get_set_same _ _ _,Nat.lt_succ_self _,.inr rfl⟩),Nat.le_succ _,Nat.le_refl _,fun id hid _=>Tr.get_set_ne _ _ (by omega)⟩
 ·have:=OH (s:=⟨n,low,o⟩) (id:=id) (g:=g) (k:=k) (by_:=by_) c2 d2 hr
  refine ⟨.sl id (g+1) 0 (xs.length+ys.length) (.room k),n,bif Nat.blt id low then id else low,o.set id (bB (g+1) ((xs.map AV.cells).flatten++(ys.map AV.cells).flatten)),.inr ?_,.inr (.inl ⟨id,g+1,by rw [List.length_append],by rw [List.map_append,List.flatten_append];exact Tr.get_set_same _ _ _,h4,.inl h5⟩),Nat.le_refl _,Nat.le_succ _,fun j hj hX=>Tr.get_set_ne _ _ fun e=>hX (e ▸ h5)⟩
  rw [GP,Sto.get_mk h4,h3,this];rfl
 ·by_cases h0:ys.length=0
  ·have:ys=[]:=List.length_eq_zero_iff.1 h0
   subst this
   have:=iF (s:=⟨n,low,o⟩) (k:=k) (by_:=by_) (id:=id) (by rw [Sto.get_mk h4];exact h3)
   exact ⟨.sl id 0 0 0 (.is 0),n,bif Nat.blt id low then id else low,o.set id (bB 0 []),.inr this,.inr (.inr ⟨id,rfl,rfl,Tr.get_set_same _ _ _,h4,.inl h5⟩),Nat.le_refl _,Nat.le_succ _,fun j hj hX=>Tr.get_set_ne _ _ fun e=>hX (e ▸ h5)⟩
  ·have:=jX (s:=⟨n,low,o⟩) (k:=k) (by_:=by_) (id:=id) (by rw [Sto.get_mk h4];exact h3) h0 (by simpa using hr) d1
   exact ⟨.sl n 0 0 ys.length (.room k),n+1,low,o.set n (ob (ys.map AV.cells).flatten),.inr this,.inr (.inl ⟨n,0,rfl,Tr.get_set_same _ _ _,Nat.lt_succ_self _,.inr rfl⟩),Nat.le_succ _,Nat.le_refl _,fun id hid _=>Tr.get_set_ne _ _ (by omega)⟩
end
end Go.Abs
namespace Go.Proofs.YtginbapbkjhnjaaGreat
open Go.Abs Go Go.Abs.TryzF
noncomputable section
set_option maxRecDepth 10000
theorem AL {k n low:Nat} {X:Nat->Prop} {v:AV} {o:Tr AObj} {xs:List AV} {T:AV->Prop} (h:CapR k X v n o xs) (hT:Tk k T) (hx:∀ x∈xs,T x) (hl:xs.length<=1000000):∃ r,Sl r xs/\Frz ⟨n,low,o⟩ 0 v r:=by
 rcases h with ⟨rfl,rfl⟩ | ⟨id,g,rfl,hg,hid,_⟩ | ⟨id,rfl,rfl,hg,hid,_⟩
 ·exact ⟨.nils,⟨.inl ⟨rfl,rfl⟩,by simp⟩,.und _ iY⟩
 ·refine ⟨.fz xs false,⟨.inr ⟨false,rfl⟩,by omega⟩,?_⟩
  have:=DD (S:=⟨n,low,o⟩) (n:=0) (id:=id) (g:=g) (cap:=.room k) (l:=xs.map AV.cells) (Nat.zero_le _) (by rw [Sto.get_mk hid];exact hg) rfl (FG hT hx) (FH hT hx)
  rw [FF hT hx,List.length_map]at this
  exact this
 ·exact ⟨.fz [] false,⟨.inr ⟨false,rfl⟩,by simp⟩,pJ (g:=0) (cs:=[]) (Nat.zero_le _) (by rw [Sto.get_mk hid];exact hg) rfl (by simp) (fun x hx=>nomatch hx) fun j x y hx _=>by simp at hx⟩
theorem uI {n low:Nat} {X:Nat->Prop} {v:AV} {o:Tr AObj} {xs:List AV} {T:AV->Prop} (h:CapR 1 X v n o xs) (hT:Tu T) (hx:∀ x∈xs,T x) (hl:xs.length<=1000000):∃ r,Sl r xs/\Frz ⟨n,low,o⟩ 0 v r:=by
 have hc:∀ x∈xs,x.isCell=true:=fun x h=>(hT x (hx x h)).2
 rcases h with ⟨rfl,rfl⟩ | ⟨id,g,rfl,hg,hid,_⟩ | ⟨id,rfl,rfl,hg,hid,_⟩
 ·exact ⟨.nils,⟨.inl ⟨rfl,rfl⟩,by simp⟩,.und _ iY⟩
 ·refine ⟨.fz xs false,⟨.inr ⟨false,rfl⟩,by omega⟩,?_⟩
  rw [JH hc]at hg
  refine pJ (g:=g) (cs:=xs) (Nat.zero_le _) (by rw [Sto.get_mk hid];exact hg) rfl (by omega) hc fun j x y hx' hy=>?_
  rw [Nat.zero_add]at hx'
  have he:some x=some y:=hx'.symm.trans hy
  cases he
  exact .und _ ((hT x (hx x (List.mem_of_getElem? hx'))).1.mono (Nat.zero_le _)).und
 ·exact ⟨.fz [] false,⟨.inr ⟨false,rfl⟩,by simp⟩,pJ (g:=0) (cs:=[]) (Nat.zero_le _) (by rw [Sto.get_mk hid];exact hg) rfl (by simp) (fun x hx=>nomatch hx) fun j x y hx _=>by simp at hx⟩
end
end Go.Proofs.YtginbapbkjhnjaaGreat
/-
 Lives: copies of rows of values,of frames,of objects.
-/
namespace Go.Abs
noncomputable section
theorem ZC {S:Sto} {n id g k:Nat} {cap:ACap} {l l':List (List AV)} (hn:n<=id) (hg:S.get id=some (bB g l.flatten)) (hk:∀ x∈l,x.length=k) (hk':∀ x∈l',x.length=k) (hl:l'.length=l.length) (h:∀ (i:Nat) x y,l[i]?=some x->l'[i]?=some y->∀ (j:Nat) a b,x[j]?=some a->y[j]?=some b->Frz S n a b):Frz S n (.sl id g 0 l.length cap) (.fz (l'.map .agg) false):=by
 refine .sl id g 0 l.length cap l.flatten.length k _ (l'.map .agg) (fun i j=>((l[i]?).bind fun x=>x[j]?).getD .top) hn hg (by simpa using hl) (by rw [iW l hk];omega) (fun x hx=>?_) (fun i j x y hx hy=>?_) (fun i j x y hx hy=>?_)
 ·obtain ⟨z,hz,rfl⟩:=List.mem_map.1 hx
  exact hk' z hz
 ·rw [List.getElem?_map]at hx
  obtain ⟨z,hz,rfl⟩:=Option.map_eq_some_iff.1 hx
  have hy':z[j]?=some y:=hy
  have hj:j<k:=by rw [<-hk' z (List.mem_of_getElem? hz)];exact (List.getElem?_eq_some_iff.1 hy').1
  have hi:i<l.length:=by rw [<-hl];exact (List.getElem?_eq_some_iff.1 hz).1
  have hli:=List.getElem?_eq_getElem hi
  have hjl:j<(l[i]).length:=by rw [hk _ (List.getElem_mem hi)];exact hj
  rw [Tr.get_row,Nat.zero_add,pH l i j hk hj,hli]
  simp [hjl]
 ·rw [List.getElem?_map]at hx
  obtain ⟨z,hz,rfl⟩:=Option.map_eq_some_iff.1 hx
  have hy':z[j]?=some y:=hy
  have hj:j<k:=by rw [<-hk' z (List.mem_of_getElem? hz)];exact (List.getElem?_eq_some_iff.1 hy').1
  have hi:i<l.length:=by rw [<-hl];exact (List.getElem?_eq_some_iff.1 hz).1
  have hli:=List.getElem?_eq_getElem hi
  have hjl:j<(l[i]).length:=by rw [hk _ (List.getElem_mem hi)];exact hj
  have hlj:=List.getElem?_eq_getElem hjl
  simp only [hli,Option.bind_some,hlj,Option.getD_some]
  exact h i _ z hli hz j _ y hlj hy'
end
end Go.Abs
namespace Go.Proofs.YtginbapbkjhnjaaGreat
open Go.Abs Go Go.Abs.TryzF
noncomputable section
set_option maxRecDepth 10000
abbrev nA:List AV->Option AV:=rA (fun a=>TSl zU a/\a.els.length<=1000) bV
theorem aEa {x y:Operand}:bX Tryz.prog .eql 107 x y .nils .nils=some (.bool true):=by kernel_rfl
theorem aCs {x y:Operand} {l:List AV} {c:Bool}:bX Tryz.prog .eql 107 x y (.fz l c) .nils=some (.bool false):=by kernel_rfl
set_option maxHeartbeats 2000000 in
theorem cloneL_ok:Abs.Ok Tryz.prog 99 nA:=vQ fun a ⟨ha,hlen⟩=>by
 have hua:=(gM (gV tk_val) a ha).1
 obtain ⟨xs,hs,hxs⟩:=ha
 rw [hs.els]at hlen
 refine lG (L:=[]) aG aO (by kernel_rfl) Tryz.func99 Tryz.ntmps99 Tryz.results99 rfl rfl (aA hua.und aF) ?_
 rcases hs.1 with ⟨rfl,rfl⟩ | ⟨c,rfl⟩
 ·simp +contextual +decide (maxSteps:=1000000) only [↓ wP,wQ,tf,Nat.reduceAdd,wS,reduceCtorEq,aEa]
  exact .und _ iY
 ·have hcell:∀ x∈xs,x.cells.length=2/\x.cells.all AV.isCell=true:=fun x hx=>by
   obtain ⟨_,cs,rfl,h1,h2⟩:=tk_val x (hxs x hx);exact ⟨h1,h2⟩
  have hy:=fun {s:Sto}=>rY (s:=s) (c:=c) hcell
  have hall:(xs.flatMap AV.cells).all AV.isCell=true:=List.all_eq_true.2 fun y hy=>by
   obtain ⟨x,hx,hy⟩:=List.mem_flatMap.1 hy
   exact List.all_eq_true.1 (hcell x hx).2 y hy
  by_cases h0:xs.length=0
  ·have:xs=[]:=List.length_eq_zero_iff.1 h0
   subst this
   have hap:=iF (s:=⟨1,0,Tr.leaf.set 0 (bB 0 [])⟩) (k:=2) (by_:=16) (id:=0) rfl
   simp +contextual +decide (maxSteps:=1000000) only [↓ wP,wQ,tf,Nat.reduceAdd,wS,reduceCtorEq,aCs,hy,hap,List.length_nil,List.flatMap_nil,Sto.put_any]
   exact pJ (g:=0) (cs:=[]) (Nat.zero_le _) (by simp [Sto.get];rfl) rfl (by simp) (fun x hx=>nomatch hx) fun j x y hx _=>by simp at hx
  ·have hap:=jX (s:=⟨1,0,Tr.leaf.set 0 (bB 0 [])⟩) (k:=2) (by_:=16) (id:=0) (n:=xs.length) (new:=xs.flatMap AV.cells) rfl h0 (by omega) hall
   simp +contextual +decide (maxSteps:=1000000) only [↓ wP,wQ,tf,Nat.reduceAdd,wS,reduceCtorEq,aCs,hy,hap,Sto.push_mk]
   have:=DD (S:=⟨2,0,(Tr.leaf.set 0 (bB 0 [])).set 1 (bB 0 (xs.flatMap AV.cells))⟩) (n:=0) (id:=1) (g:=0) (cap:=.room 2) (l:=xs.map AV.cells) (Nat.zero_le _) (by rw [Sto.get_mk (by omega),<-List.flatMap_def];exact by simp +decide only [↓ aC,aJ,aD,ne_eq]) rfl (FG tk_val hxs) (FH tk_val hxs)
   rw [FF tk_val hxs,List.length_map]at this
   exact this
theorem aEb {x y:Operand}:bX Tryz.prog .eql 108 x y .nils .nils=some (.bool true):=by kernel_rfl
theorem aCt {x y:Operand} {l:List AV} {c:Bool}:bX Tryz.prog .eql 108 x y (.fz l c) .nils=some (.bool false):=by kernel_rfl
set_option maxHeartbeats 2000000 in
theorem IV {a:AV} (ha:TSl IS a) (hlen:a.els.length<=1000) (s:Sto):∃ S v,(s.n<=S.low/\Sim s S/\CapS 3 s.n v S.n S.o a.els)/\bP Tryz.prog 100 [a] s (.ret v (some {S with low:=Nat.min s.low S.low})):=by
 obtain ⟨xs,hs,hxs⟩:=ha
 rw [hs.els]at hlen ⊢
 refine mF (L:=[]) aG aO (by kernel_rfl) Tryz.func100 Tryz.ntmps100 Tryz.results100 rfl rfl ?_
 obtain ⟨n0,low0,o0⟩:=s
 rcases hs.1 with ⟨rfl,rfl⟩ | ⟨c,rfl⟩
 ·simp +contextual +decide (maxSteps:=1000000) only [↓ wP,wQ,tf,Nat.reduceAdd,wS,reduceCtorEq,aEb]
  exact ⟨Sim.low _ _,.inl ⟨rfl,rfl⟩⟩
 ·have hcell:∀ x∈xs,x.cells.length=3/\x.cells.all AV.isCell=true:=fun x hx=>by
   obtain ⟨_,cs,rfl,h1,h2⟩:=tk_fr x (hxs x hx);exact ⟨h1,h2⟩
  have hy:=fun {s:Sto}=>rY (s:=s) (c:=c) hcell
  have hall:(xs.flatMap AV.cells).all AV.isCell=true:=List.all_eq_true.2 fun y hy=>by
   obtain ⟨x,hx,hy⟩:=List.mem_flatMap.1 hy
   exact List.all_eq_true.1 (hcell x hx).2 y hy
  by_cases h0:xs.length=0
  ·have:xs=[]:=List.length_eq_zero_iff.1 h0
   subst this
   have hap:=iF (s:=⟨n0+1,n0,o0.set n0 (bB 0 [])⟩) (k:=3) (by_:=56) (id:=n0) (by rw [Sto.get_mk (by omega)];exact Tr.get_set_same _ _ _)
   simp +contextual +decide (maxSteps:=1000000) only [↓ wP,wQ,tf,Nat.reduceAdd,wS,reduceCtorEq,aCt,hy,hap,List.length_nil,List.flatMap_nil,Sto.put_any]
   refine ⟨by rw [show n0.min n0=n0 from Nat.min_self n0];exact Nat.le_refl _,⟨Nat.le_succ _,fun id hid=>?_⟩,.inr (.inr ⟨n0,rfl,rfl,Tr.get_set_same _ _ _,Nat.lt_succ_self _,Nat.le_refl _⟩)⟩
   have hid':id<n0:=hid
   rw [Sto.get_mk (show id<n0+1 by omega),Sto.get_mk hid',Tr.get_set_ne _ _ (by omega),Tr.get_set_ne _ _ (by omega)]
  ·have hap:=jX (s:=⟨n0+1,n0,o0.set n0 (bB 0 [])⟩) (k:=3) (by_:=56) (id:=n0) (n:=xs.length) (new:=xs.flatMap AV.cells) (by rw [Sto.get_mk (by omega)];exact Tr.get_set_same _ _ _) h0 (by omega) hall
   simp +contextual +decide (maxSteps:=1000000) only [↓ wP,wQ,tf,Nat.reduceAdd,wS,reduceCtorEq,aCt,hy,hap,Sto.push_mk]
   refine ⟨⟨show n0<=n0+1+1 by omega,fun id hid=>?_⟩,.inr (.inl ⟨n0+1,0,rfl,fun e=>h0 (by rw [e];rfl),by rw [<-List.flatMap_def];exact Tr.get_set_same _ _ _,by show n0+1<n0+1+1;omega,by show n0<=n0+1;omega⟩)⟩
   have hid':id<n0:=hid
   rw [Sto.get_mk (show id<n0+1+1 by omega),Sto.get_mk hid',Tr.get_set_ne _ _ (by omega),Tr.get_set_ne _ _ (by omega)]
theorem aEc {x y:Operand}:bX Tryz.prog .eql 43 x y .nils .nils=some (.bool true):=by kernel_rfl
theorem aCu {x y:Operand} {l:List AV} {c:Bool}:bX Tryz.prog .eql 43 x y (.fz l c) .nils=some (.bool false):=by kernel_rfl
set_option maxHeartbeats 2000000 in
theorem IW {a:AV} (ha:TSl vM a) (hlen:a.els.length<=1000) (s:Sto):∃ S v,(s.n<=S.low/\Sim s S/\CapS 4 s.n v S.n S.o a.els)/\bP Tryz.prog 96 [a] s (.ret v (some {S with low:=Nat.min s.low S.low})):=by
 obtain ⟨xs,hs,hxs⟩:=ha
 rw [hs.els]at hlen ⊢
 refine mF (L:=[]) aG aO (by kernel_rfl) Tryz.func96 Tryz.ntmps96 Tryz.results96 rfl rfl ?_
 obtain ⟨n0,low0,o0⟩:=s
 rcases hs.1 with ⟨rfl,rfl⟩ | ⟨c,rfl⟩
 ·simp +contextual +decide (maxSteps:=1000000) only [↓ wP,wQ,tf,Nat.reduceAdd,wS,reduceCtorEq,aEc]
  exact ⟨Sim.low _ _,.inl ⟨rfl,rfl⟩⟩
 ·have hcell:∀ x∈xs,x.cells.length=4/\x.cells.all AV.isCell=true:=fun x hx=>by
   obtain ⟨_,cs,rfl,h1,h2⟩:=tk_ob x (hxs x hx);exact ⟨h1,h2⟩
  have hy:=fun {s:Sto}=>rY (s:=s) (c:=c) hcell
  have hall:(xs.flatMap AV.cells).all AV.isCell=true:=List.all_eq_true.2 fun y hy=>by
   obtain ⟨x,hx,hy⟩:=List.mem_flatMap.1 hy
   exact List.all_eq_true.1 (hcell x hx).2 y hy
  by_cases h0:xs.length=0
  ·have:xs=[]:=List.length_eq_zero_iff.1 h0
   subst this
   have hap:=iF (s:=⟨n0+1,n0,o0.set n0 (bB 0 [])⟩) (k:=4) (by_:=64) (id:=n0) (by rw [Sto.get_mk (by omega)];exact Tr.get_set_same _ _ _)
   simp +contextual +decide (maxSteps:=1000000) only [↓ wP,wQ,tf,Nat.reduceAdd,wS,reduceCtorEq,aCu,hy,hap,List.length_nil,List.flatMap_nil,Sto.put_any]
   refine ⟨by rw [show n0.min n0=n0 from Nat.min_self n0];exact Nat.le_refl _,⟨Nat.le_succ _,fun id hid=>?_⟩,.inr (.inr ⟨n0,rfl,rfl,Tr.get_set_same _ _ _,Nat.lt_succ_self _,Nat.le_refl _⟩)⟩
   have hid':id<n0:=hid
   rw [Sto.get_mk (show id<n0+1 by omega),Sto.get_mk hid',Tr.get_set_ne _ _ (by omega),Tr.get_set_ne _ _ (by omega)]
  ·have hap:=jX (s:=⟨n0+1,n0,o0.set n0 (bB 0 [])⟩) (k:=4) (by_:=64) (id:=n0) (n:=xs.length) (new:=xs.flatMap AV.cells) (by rw [Sto.get_mk (by omega)];exact Tr.get_set_same _ _ _) h0 (by omega) hall
   simp +contextual +decide (maxSteps:=1000000) only [↓ wP,wQ,tf,Nat.reduceAdd,wS,reduceCtorEq,aCu,hy,hap,Sto.push_mk]
   refine ⟨⟨show n0<=n0+1+1 by omega,fun id hid=>?_⟩,.inr (.inl ⟨n0+1,0,rfl,fun e=>h0 (by rw [e];rfl),by rw [<-List.flatMap_def];exact Tr.get_set_same _ _ _,by show n0+1<n0+1+1;omega,by show n0<=n0+1;omega⟩)⟩
   have hid':id<n0:=hid
   rw [Sto.get_mk (show id<n0+1+1 by omega),Sto.get_mk hid',Tr.get_set_ne _ _ (by omega),Tr.get_set_ne _ _ (by omega)]
def RNI (args:List AV) (s:Sto) (res:CRes):Prop:=∃ a S v,args=[a]/\res=.ret v (some S)/\bP Tryz.prog 97 args s res/\Nat.min s.low s.n<=S.low/\Sim s S/\CapS 1 s.n v S.n S.o a.els
theorem FE {a:AV} (ha:fF a) (hlen:a.els.length<=1000) (s:Sto):∃ res,RNI [a] s res:=by
 obtain ⟨S,v,⟨h1,h2,h3⟩,h4⟩:=IX ha hlen s
 refine ⟨_,a,_,v,rfl,rfl,h4,?_,⟨h2.1,fun id hid=>h2.2 id hid⟩,h3⟩
 exact Nat.le_min.2 ⟨Nat.min_le_left _ _,Nat.le_trans (Nat.min_le_right _ _) h1⟩
def RNO (args:List AV) (s:Sto) (res:CRes):Prop:=∃ a S v,args=[a]/\res=.ret v (some S)/\bP Tryz.prog 98 args s res/\Nat.min s.low s.n<=S.low/\Sim s S/\CapS 2 s.n v S.n S.o a.els
theorem TG {a:AV} (ha:TSl oP a) (hlen:a.els.length<=1000) (s:Sto):∃ res,RNO [a] s res:=by
 obtain ⟨S,v,⟨h1,h2,h3⟩,h4⟩:=IY ha hlen s
 refine ⟨_,a,_,v,rfl,rfl,h4,?_,⟨h2.1,fun id hid=>h2.2 id hid⟩,h3⟩
 exact Nat.le_min.2 ⟨Nat.min_le_left _ _,Nat.le_trans (Nat.min_le_right _ _) h1⟩
def RNF (args:List AV) (s:Sto) (res:CRes):Prop:=∃ a S v,args=[a]/\res=.ret v (some S)/\bP Tryz.prog 100 args s res/\Nat.min s.low s.n<=S.low/\Sim s S/\CapS 3 s.n v S.n S.o a.els
theorem TH {a:AV} (ha:TSl IS a) (hlen:a.els.length<=1000) (s:Sto):∃ res,RNF [a] s res:=by
 obtain ⟨S,v,⟨h1,h2,h3⟩,h4⟩:=IV ha hlen s
 refine ⟨_,a,_,v,rfl,rfl,h4,?_,⟨h2.1,fun id hid=>h2.2 id hid⟩,h3⟩
 exact Nat.le_min.2 ⟨Nat.min_le_left _ _,Nat.le_trans (Nat.min_le_right _ _) h1⟩
def RNQ (args:List AV) (s:Sto) (res:CRes):Prop:=∃ a S v,args=[a]/\res=.ret v (some S)/\bP Tryz.prog 96 args s res/\Nat.min s.low s.n<=S.low/\Sim s S/\CapS 4 s.n v S.n S.o a.els
theorem TI {a:AV} (ha:TSl vM a) (hlen:a.els.length<=1000) (s:Sto):∃ res,RNQ [a] s res:=by
 obtain ⟨S,v,⟨h1,h2,h3⟩,h4⟩:=IW ha hlen s
 refine ⟨_,a,_,v,rfl,rfl,h4,?_,⟨h2.1,fun id hid=>h2.2 id hid⟩,h3⟩
 exact Nat.le_min.2 ⟨Nat.min_le_left _ _,Nat.le_trans (Nat.min_le_right _ _) h1⟩
abbrev wD:List lX:=[qX 96 RNQ,qX 97 RNI,qX 98 RNO,qX 100 RNF,ent 99 nA]
theorem ZD:∀ x∈wD,cL Tryz.prog x:=elist_cons (sY fun _ _ _ h=>by obtain ⟨_,_,_,_,_,h,_⟩:=h;exact h) (elist_cons (sY fun _ _ _ h=>by obtain ⟨_,_,_,_,_,h,_⟩:=h;exact h) (elist_cons (sY fun _ _ _ h=>by obtain ⟨_,_,_,_,_,h,_⟩:=h;exact h) (elist_cons (sY fun _ _ _ h=>by obtain ⟨_,_,_,_,_,h,_⟩:=h;exact h) (elist_cons cloneL_ok.ent aG))))
theorem aEe {a:AV} {s:Sto} (h:∃ res,RNQ [a] s res):∃ S v,bI wD 96 [a] s=some (.ret v (some S))/\Nat.min s.low s.n<=S.low/\Sim s S/\CapS 4 s.n v S.n S.o a.els:=by
 obtain ⟨_,⟨a',S,v,ea,rfl,_,h1,h2,h3⟩,he⟩:=oV (f:=96) (L:=[qX 97 RNI,qX 98 RNO,qX 100 RNF,ent 99 nA]) h
 cases ea
 exact ⟨S,v,he,h1,h2,h3⟩
theorem TJ {a:AV} {s:Sto} (h:∃ res,RNI [a] s res):∃ S v,bI wD 97 [a] s=some (.ret v (some S))/\Nat.min s.low s.n<=S.low/\Sim s S/\CapS 1 s.n v S.n S.o a.els:=by
 obtain ⟨_,⟨a',S,v,ea,rfl,_,h1,h2,h3⟩,he⟩:=oV (f:=97) (L:=[qX 98 RNO,qX 100 RNF,ent 99 nA]) h
 cases ea
 exact ⟨S,v,by rw [wD,fC (by decide)];exact he,h1,h2,h3⟩
theorem aEf {a:AV} {s:Sto} (h:∃ res,RNO [a] s res):∃ S v,bI wD 98 [a] s=some (.ret v (some S))/\Nat.min s.low s.n<=S.low/\Sim s S/\CapS 2 s.n v S.n S.o a.els:=by
 obtain ⟨_,⟨a',S,v,ea,rfl,_,h1,h2,h3⟩,he⟩:=oV (f:=98) (L:=[qX 100 RNF,ent 99 nA]) h
 cases ea
 exact ⟨S,v,by rw [wD,fC (by decide),fC (by decide)];exact he,h1,h2,h3⟩
theorem aEg {a:AV} {s:Sto} (h:∃ res,RNF [a] s res):∃ S v,bI wD 100 [a] s=some (.ret v (some S))/\Nat.min s.low s.n<=S.low/\Sim s S/\CapS 3 s.n v S.n S.o a.els:=by
 obtain ⟨_,⟨a',S,v,ea,rfl,_,h1,h2,h3⟩,he⟩:=oV (f:=100) (L:=[ent 99 nA]) h
 cases ea
 exact ⟨S,v,by rw [wD,fC (by decide),fC (by decide),fC (by decide)];exact he,h1,h2,h3⟩
theorem aEh {a:AV} (ha:kI a) (hl:a.els.length<=1000) {s:Sto}:bI wD 99 [a] s=some (.ret (bV a) none):=by
 have:nA [a]=some (bV a):=bW ⟨ha,hl⟩
 rw [wD,fC (by decide),fC (by decide),fC (by decide),fC (by decide)];simp [bI,ent,this]<;>rfl
end
end Go.Proofs.YtginbapbkjhnjaaGreat
