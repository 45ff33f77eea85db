/-
  Rows that can be appended to, each in its own part of the store.
-/
import Derived.Test.YtginbapbkjhnjaaGreatTa
set_option linter.unusedVariables false
set_option linter.unusedSimpArgs false
namespace Go.Abs
noncomputable section
def CapR (k:Nat) (X:Nat->Prop) (v:AV) (n:Nat) (o:Tr AObj) (xs:List AV):Prop:=
 (xs=[]/\v=.nils)∨(∃ id g,v=.sl id g 0 xs.length (.room k)/\o.get id=some (aT g (xs.map AV.cells).flatten)/\id<n/\X id)∨(∃ id,xs=[]/\v=.sl id 0 0 0 (.is 0)/\o.get id=some (aT 0 [])/\id<n/\X id)
theorem CapS.capR {k lo n:Nat} {v:AV} {o:Tr AObj} {xs:List AV} (h:CapS k lo v n o xs):CapR k (fun id=>lo<=id/\id<n) v n o xs:=by
 rcases h with h | ⟨id,g,h1,h2,h3,h4,h5⟩ | ⟨id,h1,h2,h3,h4,h5⟩
 ·exact .inl h
 ·exact .inr (.inl ⟨id,g,h1,h3,h4,h5,h4⟩)
 ·exact .inr (.inr ⟨id,h1,h2,h3,h4,h5,h4⟩)
theorem CapR.cell {k n:Nat} {X:Nat->Prop} {v:AV} {o:Tr AObj} {xs:List AV} (h:CapR k X v n o xs):v.isCell=true:=by
 rcases h with ⟨_,rfl⟩ | ⟨_,_,rfl,_⟩ | ⟨_,_,rfl,_⟩<;>rfl
theorem CapR.under {k n:Nat} {X:Nat->Prop} {v:AV} {o:Tr AObj} {xs:List AV} (h:CapR k X v n o xs):UnderE n v:=by
 rcases h with ⟨_,rfl⟩ | ⟨_,_,rfl,_,h,_⟩ | ⟨_,_,rfl,_,h,_⟩
 ·exact ⟨1,rfl⟩
 ·exact ⟨1,by simpa [AV.under] using h⟩
 ·exact ⟨1,by simpa [AV.under] using h⟩
theorem CapR.keep {k n n':Nat} {X:Nat->Prop} {v:AV} {o o':Tr AObj} {xs:List AV} (h:CapR k X v n o xs) (hn:n<=n') (hs:∀ id,X id->id<n->o'.get id=o.get id):CapR k X v n' o' xs:=by
 rcases h with h | ⟨id,g,h1,h3,h4,h5⟩ | ⟨id,h1,h2,h3,h4,h5⟩
 ·exact .inl h
 ·exact .inr (.inl ⟨id,g,h1,by rw [hs id h5 h4];exact h3,Nat.lt_of_lt_of_le h4 hn,h5⟩)
 ·exact .inr (.inr ⟨id,h1,h2,by rw [hs id h5 h4];exact h3,Nat.lt_of_lt_of_le h4 hn,h5⟩)
theorem cQ {k:Nat} {xs:List AV} (hc:∀ x∈xs,x.cells.length=k/\x.cells.all AV.isCell=true):(xs.map AV.cells).flatten.all AV.isCell=true/\(xs.map AV.cells).flatten.length=xs.length*k:=by
 constructor
 ·refine List.all_eq_true.2 fun y hy=>?_
  obtain ⟨l,hl,hy⟩:=List.mem_flatten.1 hy
  obtain ⟨x,hx,rfl⟩:=List.mem_map.1 hl
  exact List.all_eq_true.1 (hc x hx).2 y hy
 ·rw [lL (k:=k) (xs.map AV.cells) fun x hx=>by obtain ⟨y,hy,rfl⟩:=List.mem_map.1 hx;exact (hc y hy).1,List.length_map]
theorem CapR.app {k by_ n low:Nat} {X:Nat->Prop} {v:AV} {o:Tr AObj} {xs ys:List AV} (h:CapR k X v n o xs) (hx:∀ x∈xs,x.cells.length=k/\x.cells.all AV.isCell=true) (hy:∀ x∈ys,x.cells.length=k/\x.cells.all AV.isCell=true) (hr:(2*(xs.length+ys.length)+1024)*by_<=281474976710656/\xs.length+ys.length<4611686018427387904):
 ∃ v' n' low' o',(((∀ s,apF s k by_ v (some (ys.length,(ys.map AV.cells).flatten))=some (.val v'))/\n'=n/\low'=low/\o'=o)∨apF ⟨n,low,o⟩ k by_ v (some (ys.length,(ys.map AV.cells).flatten))=some (.val' v' ⟨n',low',o'⟩))/\CapR k (fun id=>X id∨id=n) v' n' o' (xs++ys)/\n<=n'/\n'<=n+1/\(∀ id,id<n->¬ X id->o'.get id=o.get id):=by
 obtain ⟨c1,c2⟩:=cQ hx
 obtain ⟨d1,d2⟩:=cQ hy
 rcases h with ⟨rfl,rfl⟩ | ⟨id,g,rfl,h3,h4,h5⟩ | ⟨id,rfl,rfl,h3,h4,h5⟩
 ·by_cases h0:ys.length=0
  ·have:ys=[]:=List.length_eq_zero_iff.1 h0
   subst this
   exact ⟨.nils,n,low,o,.inl ⟨fun s=>pR,rfl,rfl,rfl⟩,.inl ⟨rfl,rfl⟩,Nat.le_refl _,Nat.le_succ _,fun _ _ _=>rfl⟩
  ·have:=sF (s:=⟨n,low,o⟩) (k:=k) (by_:=by_) h0 (by simpa using hr) d1
   exact ⟨.sl n 0 0 ys.length (.room k),n+1,low,o.set n (ob (ys.map AV.cells).flatten),.inr this,.inr (.inl ⟨n,0,rfl,Tr.get_set_same _ _ _,Nat.lt_succ_self _,.inr rfl⟩),Nat.le_succ _,Nat.le_refl _,fun id hid _=>Tr.get_set_ne _ _ (by omega)⟩
 ·have:=vZ (s:=⟨n,low,o⟩) (id:=id) (g:=g) (k:=k) (by_:=by_) c2 d2 hr
  refine ⟨.sl id (g+1) 0 (xs.length+ys.length) (.room k),n,bif Nat.blt id low then id else low,o.set id (aT (g+1) ((xs.map AV.cells).flatten++(ys.map AV.cells).flatten)),.inr ?_,.inr (.inl ⟨id,g+1,by rw [List.length_append],by rw [List.map_append,List.flatten_append];exact Tr.get_set_same _ _ _,h4,.inl h5⟩),Nat.le_refl _,Nat.le_succ _,fun j hj hX=>Tr.get_set_ne _ _ fun e=>hX (e ▸ h5)⟩
  rw [sG,Sto.get_mk h4,h3,this];rfl
 ·by_cases h0:ys.length=0
  ·have:ys=[]:=List.length_eq_zero_iff.1 h0
   subst this
   have:=kB (s:=⟨n,low,o⟩) (k:=k) (by_:=by_) (id:=id) (by rw [Sto.get_mk h4];exact h3)
   exact ⟨.sl id 0 0 0 (.is 0),n,bif Nat.blt id low then id else low,o.set id (aT 0 []),.inr this,.inr (.inr ⟨id,rfl,rfl,Tr.get_set_same _ _ _,h4,.inl h5⟩),Nat.le_refl _,Nat.le_succ _,fun j hj hX=>Tr.get_set_ne _ _ fun e=>hX (e ▸ h5)⟩
  ·have:=jL (s:=⟨n,low,o⟩) (k:=k) (by_:=by_) (id:=id) (by rw [Sto.get_mk h4];exact h3) h0 (by simpa using hr) d1
   exact ⟨.sl n 0 0 ys.length (.room k),n+1,low,o.set n (ob (ys.map AV.cells).flatten),.inr this,.inr (.inl ⟨n,0,rfl,Tr.get_set_same _ _ _,Nat.lt_succ_self _,.inr rfl⟩),Nat.le_succ _,Nat.le_refl _,fun id hid _=>Tr.get_set_ne _ _ (by omega)⟩
end
end Go.Abs
namespace Go.Proofs.YtginbapbkjhnjaaGreat
open Go.Abs Go Go.Abs.TryzF
noncomputable section
set_option maxRecDepth 10000
theorem uI {k n low:Nat} {X:Nat->Prop} {v:AV} {o:Tr AObj} {xs:List AV} {T:AV->Prop} (h:CapR k X v n o xs) (hT:Tk k T) (hx:∀ x∈xs,T x) (hl:xs.length<=1000000):∃ r,Sl r xs/\Frz ⟨n,low,o⟩ 0 v r:=by
 rcases h with ⟨rfl,rfl⟩ | ⟨id,g,rfl,hg,hid,_⟩ | ⟨id,rfl,rfl,hg,hid,_⟩
 ·exact ⟨.nils,⟨.inl ⟨rfl,rfl⟩,by simp⟩,.und _ sK⟩
 ·refine ⟨.fz xs false,⟨.inr ⟨false,rfl⟩,by omega⟩,?_⟩
  have:=QS (S:=⟨n,low,o⟩) (n:=0) (id:=id) (g:=g) (cap:=.room k) (l:=xs.map AV.cells) (Nat.zero_le _) (by rw [Sto.get_mk hid];exact hg) rfl (LE hT hx) (LF hT hx)
  rw [LD hT hx,List.length_map]at this
  exact this
 ·exact ⟨.fz [] false,⟨.inr ⟨false,rfl⟩,by simp⟩,rZ (g:=0) (cs:=[]) (Nat.zero_le _) (by rw [Sto.get_mk hid];exact hg) rfl (by simp) (fun x hx=>nomatch hx) fun j x y hx _=>by simp at hx⟩
theorem mH {n low:Nat} {X:Nat->Prop} {v:AV} {o:Tr AObj} {xs:List AV} {T:AV->Prop} (h:CapR 1 X v n o xs) (hT:Tu T) (hx:∀ x∈xs,T x) (hl:xs.length<=1000000):∃ r,Sl r xs/\Frz ⟨n,low,o⟩ 0 v r:=by
 have hc:∀ x∈xs,x.isCell=true:=fun x h=>(hT x (hx x h)).2
 rcases h with ⟨rfl,rfl⟩ | ⟨id,g,rfl,hg,hid,_⟩ | ⟨id,rfl,rfl,hg,hid,_⟩
 ·exact ⟨.nils,⟨.inl ⟨rfl,rfl⟩,by simp⟩,.und _ sK⟩
 ·refine ⟨.fz xs false,⟨.inr ⟨false,rfl⟩,by omega⟩,?_⟩
  rw [BR hc]at hg
  refine rZ (g:=g) (cs:=xs) (Nat.zero_le _) (by rw [Sto.get_mk hid];exact hg) rfl (by omega) hc fun j x y hx' hy=>?_
  rw [Nat.zero_add]at hx'
  have he:some x=some y:=hx'.symm.trans hy
  cases he
  exact .und _ ((hT x (hx x (List.mem_of_getElem? hx'))).1.mono (Nat.zero_le _)).und
 ·exact ⟨.fz [] false,⟨.inr ⟨false,rfl⟩,by simp⟩,rZ (g:=0) (cs:=[]) (Nat.zero_le _) (by rw [Sto.get_mk hid];exact hg) rfl (by simp) (fun x hx=>nomatch hx) fun j x y hx _=>by simp at hx⟩
end
end Go.Proofs.YtginbapbkjhnjaaGreat
/-
 Lives: copies of rows of values,of frames,of objects.
-/
namespace Go.Abs
noncomputable section
end
end Go.Abs
namespace Go.Proofs.YtginbapbkjhnjaaGreat
open Go.Abs Go Go.Abs.TryzF
noncomputable section
set_option maxRecDepth 10000
end
end Go.Proofs.YtginbapbkjhnjaaGreat
