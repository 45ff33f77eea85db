/-
  The reference of images: pages of a string, those that are not right.
-/
import Derived.Test.YtajngkkihadgfaaIk
set_option linter.unusedVariables false
set_option linter.unusedSimpArgs false
namespace Go.Proofs.Ytajngkkihadgfaa
open Go.Abs Go Go.Abs.TryF
noncomputable section
set_option maxRecDepth 10000
theorem oQ (s:List Nat):aF s≠0↔s.length%32=0/\1<=s.length/32/\s.length/32<=256:=by unfold aF;split<;>omega
theorem sO {s:List Nat} (h:aF s≠0):s.length/32=aF s:=by
 unfold aF at h ⊢
 split at h
 ·exact absurd rfl h
 ·rename_i h';rw [if_neg h']
def cM (s:List Nat) (n:Nat):Bool:=decide (n<aF s)&&right n (aR s n)
end
end Go.Proofs.Ytajngkkihadgfaa
/-
 The reference of images: pages that are not right;its reader reads a world.
-/
namespace Go.Proofs.Ytajngkkihadgfaa
open Go.Abs Go Go.Abs.TryF
noncomputable section
set_option maxRecDepth 10000
def NAcc (n:Nat) (o:Tr AObj) (v:AV) (l:List Nat):Prop:=(l=[]/\v=.nils)∨(l≠[]/\∃ id g,v=.sl id g 0 l.length (.room 1)/\o.get id=some (aU g (l.map iN))/\id<n)
theorem NAcc.frz {n low:Nat} {o:Tr AObj} {v:AV} {l:List Nat} (h:NAcc n o v l):Frz ⟨n,low,o⟩ 0 v (nP l):=by
 rcases h with ⟨rfl,rfl⟩ | ⟨hl,id,g,rfl,hid,h2⟩
 ·exact .und _ eQ
 ·rw [nP,if_neg hl]
  refine DR (cs:=l.map iN) (Nat.zero_le _) (by rw [Sto.get_mk h2];exact hid) (by simp) (by simp) (yM l) fun j x y hx hy=>?_
  rw [Nat.zero_add,hy]at hx
  cases hx
  obtain ⟨z,_,rfl⟩:=List.mem_map.1 (List.mem_of_getElem? hy)
  exact .und _ aV
def goF {α:Type} (E:Nat × Bool->α × Nat × Bool) (n lim:Nat):Nat->Nat->List α->Nat × Bool->List α × Nat × Bool
 | 0,_,acc,st=>(acc,st)
 | k+1,i,acc,st=>if i<n/\i<=lim/\st.2=false then goF E n lim k (i+1) (acc++[(E st).1]) (E st).2 else (acc,st)
def wA (l:List Nat):Nat × Nat × Bool:=sJ l (2,false)
def wB (l:List Nat):List Ob × Nat × Bool:=goF (obF l) (wA l).1 1000 257 0 [] (4+2*((wA l).1+1),(wA l).2.2)
end
end Go.Proofs.Ytajngkkihadgfaa
/-
 The reference of images: its reader reads a world.
-/
namespace Go.Proofs.Ytajngkkihadgfaa
open Go.Abs Go Go.Abs.TryF
noncomputable section
set_option maxRecDepth 10000
theorem OAcc.keep {n0 n n':Nat} {o o':Tr AObj} {v:AV} {l:List Ob} (h:OAcc n0 n o v l) (hn:n<=n') (hk:∀ id,n0<=id->id<n->o'.get id=o.get id):OAcc n0 n' o' v l:=by
 rcases h with h | ⟨hL,id,g,rfl,hid,h1,h2⟩
 ·exact .inl h
 ·exact .inr ⟨hL,id,g,rfl,by rw [hk id h1 h2];exact hid,h1,by omega⟩
theorem VAcc.keep {n0 n n':Nat} {o o':Tr AObj} {v:AV} {l:List eN} (h:VAcc n0 n o v l) (hn:n<=n') (hk:∀ id,n0<=id->id<n->o'.get id=o.get id):VAcc n0 n' o' v l:=by
 rcases h with h | ⟨hL,id,g,rfl,hid,h1,h2⟩
 ·exact .inl h
 ·exact .inr ⟨hL,id,g,rfl,by rw [hk id h1 h2];exact hid,h1,by omega⟩
theorem IAcc.keep {n0 n n':Nat} {o o':Tr AObj} {v:AV} {l:List Int} (h:IAcc n0 n o v l) (hn:n<=n') (hk:∀ id,n0<=id->id<n->o'.get id=o.get id):IAcc n0 n' o' v l:=by
 rcases h with h | ⟨hL,id,g,rfl,hid,h1,h2⟩
 ·exact .inl h
 ·exact .inr ⟨hL,id,g,rfl,by rw [hk id h1 h2];exact hid,h1,by omega⟩
theorem OAcc.cell {n0 n:Nat} {o:Tr AObj} {v:AV} {l:List Ob} (h:OAcc n0 n o v l):v.isCell=true:=by rcases h with ⟨_,rfl⟩ | ⟨_,_,_,rfl,_⟩<;>rfl
theorem VAcc.cell {n0 n:Nat} {o:Tr AObj} {v:AV} {l:List eN} (h:VAcc n0 n o v l):v.isCell=true:=by rcases h with ⟨_,rfl⟩ | ⟨_,_,_,rfl,_⟩<;>rfl
theorem IAcc.cell {n0 n:Nat} {o:Tr AObj} {v:AV} {l:List Int} (h:IAcc n0 n o v l):v.isCell=true:=by rcases h with ⟨_,rfl⟩ | ⟨_,_,_,rfl,_⟩<;>rfl
section
variable {n low:Nat} {o:Tr AObj} {l:List Nat} {st:Nat × Bool}
end
end
end Go.Proofs.Ytajngkkihadgfaa
/-
 The reference of images: Load;it answers as the program's.
-/
namespace Go.Proofs.Ytajngkkihadgfaa
open Go.Abs Go Go.Abs.TryF
noncomputable section
set_option maxRecDepth 10000
end
end Go.Proofs.Ytajngkkihadgfaa
/-
 The reference of images: the pages that some bytes need;a place in the table.
-/
namespace Go.Proofs.Ytajngkkihadgfaa
open Go.Abs Go Go.Abs.TryF
noncomputable section
set_option maxRecDepth 10000
theorem oR {l:List Nat} (hb:By l) (n:Nat):l.getD n 0<256:=by
 by_cases h:n<l.length
 ·rw [bO h];exact hb _ (List.getElem_mem _)
 ·rw [List.getD_eq_getElem?_getD,List.getElem?_eq_none (by omega)];show 0<256;omega
def bM (l:List Nat) (n:Nat):Nat:=256*l.getD n 0+l.getD (n+1) 0
theorem tT {l:List Nat} (hb:By l) (n:Nat):bM l n<65536:=by
 have:=oR hb n
 have:=oR hb (n+1)
 unfold bM;omega
def gS (l:List Nat) (i:Nat):List Nat:=if l.getD (l.length-1) 0<i then l++[i] else l
def needsGo (s:List Nat) (hi:Nat):Nat->Nat->List Nat->Option (List Nat)
 | 0,_,l=>some l
 | k+1,i,l=>if 28*i<hi then (if cM s i=true then needsGo s hi k (i+1) (gS l i) else none) else some l
def qX (s:List Nat) (lo hi:Nat) (l:List Nat):Option (List Nat):=needsGo s hi (3000-lo/28) (lo/28) l
def LAt (σ:Sto) (l:List Nat) (v:AV):Prop:=v=nP l∨∃ id c,v=.sl id 0 0 l.length c/\id<σ.n/\σ.get id=some (aU 0 (l.map iN))
theorem BX:∀ {l m:List Nat},l.map iN=m.map iN->l=m
 | [],[],_=>rfl
 | [],_::_,h=>by simp at h
 | _::_,[],h=>by simp at h
 | a::l,b::m,h=>by
   simp only [List.map_cons,List.cons.injEq,iN,AV.int.injEq,true_and]at h
   rw [BX h.2,show a=b by omega]
theorem aAb {l m:List Nat} (h:nP l=nP m):l=m:=by
 unfold nP at h
 split at h<;>split at h
 ·rename_i h1 h2;rw [h1,h2]
 ·cases h
 ·cases h
 ·simp only [AV.fz.injEq,and_true]at h;exact BX h
theorem LAt.inj {σ:Sto} {l m:List Nat} {v:AV} (h:LAt σ l v) (h':LAt σ m v):l=m:=by
 rcases h with rfl | ⟨id,c,rfl,_,h1⟩
 ·rcases h' with h' | ⟨id,c,h',_⟩
  ·exact aAb h'
  ·unfold nP at h';split at h'<;>cases h'
 ·rcases h' with h' | ⟨id',c',h',_,h2⟩
  ·unfold nP at h';split at h'<;>cases h'
  ·simp only [AV.sl.injEq]at h'
   rw [h'.1,h2]at h1
   exact (BX (xB (Option.some.inj h1)).2).symm
def NOwn (n0 n:Nat) (o:Tr AObj) (v:AV) (l:List Nat):Prop:=l≠[]/\∃ id g,v=.sl id g 0 l.length (.room 1)/\o.get id=some (aU g (l.map iN))/\n0<=id/\id<n
theorem NOwn.frz {n0 n low:Nat} {o:Tr AObj} {v:AV} {l:List Nat} (h:NOwn n0 n o v l):Frz ⟨n,low,o⟩ n0 v (nP l):=by
 obtain ⟨hl,id,g,rfl,hid,h1,h2⟩:=h
 rw [nP,if_neg hl]
 refine DR (cs:=l.map iN) h1 (by rw [Sto.get_mk h2];exact hid) (by simp) (by simp) (yM l) fun j x y hx hy=>?_
 rw [Nat.zero_add,hy]at hx
 cases hx
 obtain ⟨z,_,rfl⟩:=List.mem_map.1 (List.mem_of_getElem? hy)
 exact .und _ aV
end
end Go.Proofs.Ytajngkkihadgfaa
/-
 The reference of images: one object of an image,and the pages it needs.
-/
namespace Go.Proofs.Ytajngkkihadgfaa
open Go.Abs Go Go.Abs.TryF
noncomputable section
set_option maxRecDepth 10000
def KR (s:List Nat):Bool:=cM s 0&&decide ((aN s).getD 0 0=72)&&decide ((aN s).getD 1 0=70)&&decide ((aN s).getD 2 0<=120)&&decide ((aN s).getD 3 0=0)
def BY (s:List Nat) (m a b:Nat) (l1:List Nat):Option (Ob × List Nat):=if a<4+2*(m+1)∨b<=a then none else match qX s a b l1 with
 | none=>none
 | some l2=>match gP (aG (aN s) a (b-a)) with
   | none=>none
   | some o=>if kH (m:Nat) o=true then some (o,l2) else none
def findO (s:List Nat) (k:Nat):Option (Ob × List Nat):=match qX s (4+2*k) (8+2*k) [0] with
 | none=>none
 | some l1=>BY s ((aN s).getD 2 0) (bM (aN s) (4+2*k)) (bM (aN s) (6+2*k)) l1
def zU (r:Option (Ob × List Nat)):AV:=match r with
 | some (o,l)=>.tuple [tY o,nP l,.int .i64 0]
 | none=>.tuple [tY sW,.nils,.int .i64 4]
def nN (s:List Nat) (k:Int):AV:=if aF s=0 then .tuple [tY sW,.nils,.int .i64 2] else if KR s=false then zU none else if iV k 0 (((aN s).getD 2 0:Nat)-1)=false then .tuple [tY sW,.nils,.int .i64 5] else zU (findO s k.toNat)
theorem aAc {l:List Nat}:Und 0 (nP l):=by
 unfold nP
 split
 ·exact eQ
 ·exact (lH fun x hx=>by obtain ⟨z,_,rfl⟩:=List.mem_map.1 hx;exact ⟨1,rfl⟩:UnderE 0 _).und
theorem PL {l:List Nat}:(nP l).isCell=true:=by unfold nP;split<;>rfl
theorem VK {r:Option (Ob × List Nat)}:Und 0 (zU r):=by
 unfold zU
 split
 ·exact dD (aE obA_under.und (aE aAc (aE aV aI)))
 ·exact dD (aE obA_under.und (aE eQ (aE aV aI)))
theorem sP {s:List Nat} {hi:Nat}:∀ (k i:Nat) (l l':List Nat),needsGo s hi k i l=some l'->(∀ j,i<=j->28*j<hi->j<i+k->cM s j=true)/\(l'≠[]∨l=[])/\l.length<=l'.length/\l'.length<=l.length+k
 | 0,i,l,l',h=>by
   cases h
   exact ⟨fun j h1 _ h2=>by omega,by cases l<;>simp,by omega,by omega⟩
 | k+1,i,l,l',h=>by
   unfold needsGo at h
   split at h
   ·split at h
    ·rename_i h1 h2
     obtain ⟨g1,g2,g3,g4⟩:=sP k (i+1) _ _ h
     have ha:(gS l i≠[]∨l=[])/\l.length<=(gS l i).length/\(gS l i).length<=l.length+1:=by
      unfold gS
      split
      ·simp
      ·cases l<;>simp
     refine ⟨fun j h3 h4 h5=>?_,?_,by omega,by omega⟩
     ·by_cases he:j=i
      ·rw [he];exact h2
      ·exact g1 j (by omega) h4 (by omega)
     ·by_cases hl:l=[]
      ·exact .inr hl
      ·left;intro hz;rw [hz,List.length_nil]at g3
       have:0<l.length:=by cases l with | nil=>exact absurd rfl hl | cons=>simp
       have:=ha.2.1
       omega
    ·cases h
   ·cases h
    exact ⟨fun j h1 h2 _=>by omega,by cases l<;>simp,by omega,by omega⟩
end
end Go.Proofs.Ytajngkkihadgfaa
