/-
  The reference of images: pages of a string, those that are not right.
-/
import Derived.Test.YtajngkkihadgfaaIk
set_option linter.unusedVariables false
set_option linter.unusedSimpArgs false
namespace Go.Proofs.Ytajngkkihadgfaa
open Go.Abs Go Go.Abs.TryF
noncomputable section
set_option maxRecDepth 10000
theorem pC (s:List Nat):aE s≠0↔s.length%32=0/\1<=s.length/32/\s.length/32<=256:=by unfold aE;split<;>omega
theorem tB {s:List Nat} (h:aE s≠0):s.length/32=aE s:=by
 unfold aE at h ⊢
 split at h
 ·exact absurd rfl h
 ·rename_i h';rw [if_neg h']
def cR (s:List Nat) (n:Nat):Bool:=decide (n<aE s)&&right n (aM s n)
end
end Go.Proofs.Ytajngkkihadgfaa
/-
 The reference of images: pages that are not right;its reader reads a world.
-/
namespace Go.Proofs.Ytajngkkihadgfaa
open Go.Abs Go Go.Abs.TryF
noncomputable section
set_option maxRecDepth 10000
def NAcc (n:Nat) (o:Tr AObj) (v:AV) (l:List Nat):Prop:=(l=[]/\v=.nils)∨(l≠[]/\∃ id g,v=.sl id g 0 l.length (.room 1)/\o.get id=some (bE g (l.map oL))/\id<n)
theorem NAcc.frz {n low:Nat} {o:Tr AObj} {v:AV} {l:List Nat} (h:NAcc n o v l):Frz ⟨n,low,o⟩ 0 v (oK l):=by
 rcases h with ⟨rfl,rfl⟩ | ⟨hl,id,g,rfl,hid,h2⟩
 ·exact .und _ eR
 ·rw [oK,if_neg hl]
  refine IR (cs:=l.map oL) (Nat.zero_le _) (by rw [Sto.get_mk h2];exact hid) (by simp) (by simp) (GD l) fun j x y hx hy=>?_
  rw [Nat.zero_add,hy]at hx
  cases hx
  obtain ⟨z,_,rfl⟩:=List.mem_map.1 (List.mem_of_getElem? hy)
  exact .und _ aV
def wA (l:List Nat):Nat × Nat × Bool:=rT l (2,false)
end
end Go.Proofs.Ytajngkkihadgfaa
/-
 The reference of images: its reader reads a world.
-/
namespace Go.Proofs.Ytajngkkihadgfaa
open Go.Abs Go Go.Abs.TryF
noncomputable section
set_option maxRecDepth 10000
theorem OAcc.keep {n0 n n':Nat} {o o':Tr AObj} {v:AV} {l:List Ob} (h:OAcc n0 n o v l) (hn:n<=n') (hk:∀ id,n0<=id->id<n->o'.get id=o.get id):OAcc n0 n' o' v l:=by
 rcases h with h | ⟨hL,id,g,rfl,hid,h1,h2⟩
 ·exact .inl h
 ·exact .inr ⟨hL,id,g,rfl,by rw [hk id h1 h2];exact hid,h1,by omega⟩
theorem VAcc.keep {n0 n n':Nat} {o o':Tr AObj} {v:AV} {l:List eA} (h:VAcc n0 n o v l) (hn:n<=n') (hk:∀ id,n0<=id->id<n->o'.get id=o.get id):VAcc n0 n' o' v l:=by
 rcases h with h | ⟨hL,id,g,rfl,hid,h1,h2⟩
 ·exact .inl h
 ·exact .inr ⟨hL,id,g,rfl,by rw [hk id h1 h2];exact hid,h1,by omega⟩
theorem IAcc.keep {n0 n n':Nat} {o o':Tr AObj} {v:AV} {l:List Int} (h:IAcc n0 n o v l) (hn:n<=n') (hk:∀ id,n0<=id->id<n->o'.get id=o.get id):IAcc n0 n' o' v l:=by
 rcases h with h | ⟨hL,id,g,rfl,hid,h1,h2⟩
 ·exact .inl h
 ·exact .inr ⟨hL,id,g,rfl,by rw [hk id h1 h2];exact hid,h1,by omega⟩
theorem OAcc.cell {n0 n:Nat} {o:Tr AObj} {v:AV} {l:List Ob} (h:OAcc n0 n o v l):v.isCell=true:=by rcases h with ⟨_,rfl⟩ | ⟨_,_,_,rfl,_⟩<;>rfl
theorem VAcc.cell {n0 n:Nat} {o:Tr AObj} {v:AV} {l:List eA} (h:VAcc n0 n o v l):v.isCell=true:=by rcases h with ⟨_,rfl⟩ | ⟨_,_,_,rfl,_⟩<;>rfl
theorem IAcc.cell {n0 n:Nat} {o:Tr AObj} {v:AV} {l:List Int} (h:IAcc n0 n o v l):v.isCell=true:=by rcases h with ⟨_,rfl⟩ | ⟨_,_,_,rfl,_⟩<;>rfl
section
variable {n low:Nat} {o:Tr AObj} {l:List Nat} {st:Nat × Bool}
end
end
end Go.Proofs.Ytajngkkihadgfaa
/-
 The reference of images: Load;it answers as the program's.
-/
namespace Go.Proofs.Ytajngkkihadgfaa
open Go.Abs Go Go.Abs.TryF
noncomputable section
set_option maxRecDepth 10000
end
end Go.Proofs.Ytajngkkihadgfaa
/-
 The reference of images: the pages that some bytes need;a place in the table.
-/
namespace Go.Proofs.Ytajngkkihadgfaa
open Go.Abs Go Go.Abs.TryF
noncomputable section
set_option maxRecDepth 10000
theorem pD {l:List Nat} (hb:By l) (n:Nat):l.getD n 0<256:=by
 by_cases h:n<l.length
 ·rw [aT h];exact hb _ (List.getElem_mem _)
 ·rw [List.getD_eq_getElem?_getD,List.getElem?_eq_none (by omega)];show 0<256;omega
def bN (l:List Nat) (n:Nat):Nat:=256*l.getD n 0+l.getD (n+1) 0
theorem uK {l:List Nat} (hb:By l) (n:Nat):bN l n<65536:=by
 have:=pD hb n
 have:=pD hb (n+1)
 unfold bN;omega
def fY (l:List Nat) (i:Nat):List Nat:=if l.getD (l.length-1) 0<i then l++[i] else l
def needsGo (s:List Nat) (hi:Nat):Nat->Nat->List Nat->Option (List Nat)
 | 0,_,l=>some l
 | k+1,i,l=>if 28*i<hi then (if cR s i=true then needsGo s hi k (i+1) (fY l i) else none) else some l
def rS (s:List Nat) (lo hi:Nat) (l:List Nat):Option (List Nat):=needsGo s hi (3000-lo/28) (lo/28) l
def LAt (σ:Sto) (l:List Nat) (v:AV):Prop:=v=oK l∨∃ id c,v=.sl id 0 0 l.length c/\id<σ.n/\σ.get id=some (bE 0 (l.map oL))
theorem EN:∀ {l m:List Nat},l.map oL=m.map oL->l=m
 | [],[],_=>rfl
 | [],_::_,h=>by simp at h
 | _::_,[],h=>by simp at h
 | a::l,b::m,h=>by
   simp only [List.map_cons,List.cons.injEq,oL,AV.int.injEq,true_and]at h
   rw [EN h.2,show a=b by omega]
theorem aFb {l m:List Nat} (h:oK l=oK m):l=m:=by
 unfold oK at h
 split at h<;>split at h
 ·rename_i h1 h2;rw [h1,h2]
 ·cases h
 ·cases h
 ·simp only [AV.fz.injEq,and_true]at h;exact EN h
theorem LAt.inj {σ:Sto} {l m:List Nat} {v:AV} (h:LAt σ l v) (h':LAt σ m v):l=m:=by
 rcases h with rfl | ⟨id,c,rfl,_,h1⟩
 ·rcases h' with h' | ⟨id,c,h',_⟩
  ·exact aFb h'
  ·unfold oK at h';split at h'<;>cases h'
 ·rcases h' with h' | ⟨id',c',h',_,h2⟩
  ·unfold oK at h';split at h'<;>cases h'
  ·simp only [AV.sl.injEq]at h'
   rw [h'.1,h2]at h1
   exact (EN (xB (Option.some.inj h1)).2).symm
def NOwn (n0 n:Nat) (o:Tr AObj) (v:AV) (l:List Nat):Prop:=l≠[]/\∃ id g,v=.sl id g 0 l.length (.room 1)/\o.get id=some (bE g (l.map oL))/\n0<=id/\id<n
theorem NOwn.frz {n0 n low:Nat} {o:Tr AObj} {v:AV} {l:List Nat} (h:NOwn n0 n o v l):Frz ⟨n,low,o⟩ n0 v (oK l):=by
 obtain ⟨hl,id,g,rfl,hid,h1,h2⟩:=h
 rw [oK,if_neg hl]
 refine IR (cs:=l.map oL) h1 (by rw [Sto.get_mk h2];exact hid) (by simp) (by simp) (GD l) fun j x y hx hy=>?_
 rw [Nat.zero_add,hy]at hx
 cases hx
 obtain ⟨z,_,rfl⟩:=List.mem_map.1 (List.mem_of_getElem? hy)
 exact .und _ aV
end
end Go.Proofs.Ytajngkkihadgfaa
/-
 The reference of images: one object of an image,and the pages it needs.
-/
namespace Go.Proofs.Ytajngkkihadgfaa
open Go.Abs Go Go.Abs.TryF
noncomputable section
set_option maxRecDepth 10000
def PD (s:List Nat):Bool:=cR s 0&&decide ((aP s).getD 0 0=72)&&decide ((aP s).getD 1 0=70)&&decide ((aP s).getD 2 0<=120)&&decide ((aP s).getD 3 0=0)
def EO (s:List Nat) (m a b:Nat) (l1:List Nat):Option (Ob × List Nat):=if a<4+2*(m+1)∨b<=a then none else match rS s a b l1 with
 | none=>none
 | some l2=>match iQ (aG (aP s) a (b-a)) with
   | none=>none
   | some o=>if jD (m:Nat) o=true then some (o,l2) else none
def findO (s:List Nat) (k:Nat):Option (Ob × List Nat):=match rS s (4+2*k) (8+2*k) [0] with
 | none=>none
 | some l1=>EO s ((aP s).getD 2 0) (bN (aP s) (4+2*k)) (bN (aP s) (6+2*k)) l1
def AP (r:Option (Ob × List Nat)):AV:=match r with
 | some (o,l)=>.tuple [wU o,oK l,.int .i64 0]
 | none=>.tuple [wU vC,.nils,.int .i64 4]
def qO (s:List Nat) (k:Int):AV:=if aE s=0 then .tuple [wU vC,.nils,.int .i64 2] else if PD s=false then AP none else if iU k 0 (((aP s).getD 2 0:Nat)-1)=false then .tuple [wU vC,.nils,.int .i64 5] else AP (findO s k.toNat)
theorem aFc {l:List Nat}:Und 0 (oK l):=by
 unfold oK
 split
 ·exact eR
 ·exact (tM fun x hx=>by obtain ⟨z,_,rfl⟩:=List.mem_map.1 hx;exact ⟨1,rfl⟩:UnderE 0 _).und
theorem SX {l:List Nat}:(oK l).isCell=true:=by unfold oK;split<;>rfl
theorem ZM {r:Option (Ob × List Nat)}:Und 0 (AP r):=by
 unfold AP
 split
 ·exact dV (aF obA_under.und (aF aFc (aF aV aO)))
 ·exact dV (aF obA_under.und (aF eR (aF aV aO)))
theorem pE {s:List Nat} {hi:Nat}:∀ (k i:Nat) (l l':List Nat),needsGo s hi k i l=some l'->(∀ j,i<=j->28*j<hi->j<i+k->cR s j=true)/\(l'≠[]∨l=[])/\l.length<=l'.length/\l'.length<=l.length+k
 | 0,i,l,l',h=>by
   cases h
   exact ⟨fun j h1 _ h2=>by omega,by cases l<;>simp,by omega,by omega⟩
 | k+1,i,l,l',h=>by
   unfold needsGo at h
   split at h
   ·split at h
    ·rename_i h1 h2
     obtain ⟨g1,g2,g3,g4⟩:=pE k (i+1) _ _ h
     have ha:(fY l i≠[]∨l=[])/\l.length<=(fY l i).length/\(fY l i).length<=l.length+1:=by
      unfold fY
      split
      ·simp
      ·cases l<;>simp
     refine ⟨fun j h3 h4 h5=>?_,?_,by omega,by omega⟩
     ·by_cases he:j=i
      ·rw [he];exact h2
      ·exact g1 j (by omega) h4 (by omega)
     ·by_cases hl:l=[]
      ·exact .inr hl
      ·left;intro hz;rw [hz,List.length_nil]at g3
       have:0<l.length:=by cases l with | nil=>exact absurd rfl hl | cons=>simp
       have:=ha.2.1
       omega
    ·cases h
   ·cases h
    exact ⟨fun j h1 h2 _=>by omega,by cases l<;>simp,by omega,by omega⟩
end
end Go.Proofs.Ytajngkkihadgfaa
