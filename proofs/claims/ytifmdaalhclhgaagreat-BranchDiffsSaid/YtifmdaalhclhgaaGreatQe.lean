/-
  Points: what is missing is put in.
-/
import Derived.Test.YtifmdaalhclhgaaGreatPm
import Derived.Test.YtifmdaalhclhgaaGreatPj
set_option linter.unusedVariables false
set_option linter.unusedSimpArgs false
namespace Go.Proofs.YtifmdaalhclhgaaGreat
open Go.Abs Go Go.Abs.TryzF
noncomputable section
set_option maxRecDepth 10000
theorem eO {l:List AV} (h:UnderE 0 (.agg l)):∀ y∈l,UnderE 0 y:=fun y hy=>by
 obtain ⟨d,hd⟩:=h
 cases d with
 | zero=>simp [AV.under]at hd
 | succ d=>exact ⟨d,List.all_eq_true.1 hd y hy⟩
theorem stn_frz {k lo hi n:Nat} {s:Sto} {a:AV} {xs:List AV} {T:AV->Prop} (h:StN lo hi s a xs) (hn:n<=lo) (hT:Tk k T) (hx:∀ x∈xs,T x) (hne:xs=[]->a=.nils):Frz s n a (bE xs):=by
 rcases h with ⟨rfl,rfl⟩ | ⟨id,g,c,rfl,hg,hlo,_⟩
 ·exact .und _ jS
 ·have hl:xs.length≠0:=fun h=>by
   have:=hne (List.length_eq_zero_iff.1 h);cases this
  unfold bE;rw [if_neg hl]
  have:=xL (S:=s) (n:=n) (cap:=c) (len:=xs.length) (Nat.le_trans hn hlo) hg (by rw [List.length_map]) (iK hT hx) (fun x hx' y hy=>by
   obtain ⟨z,hz,rfl⟩:=List.mem_map.1 hx';obtain ⟨hu,cs,rfl,_⟩:=hT z (hx z hz)
   exact ((eO hu y hy).mono (Nat.zero_le n)).und)
  rw [tF hT hx]at this;exact this
end
end Go.Proofs.YtifmdaalhclhgaaGreat
/-
 The reference of worlds: copies.
-/
namespace Go.Abs
noncomputable section
theorem frM {n:Nat}:(n<n+1)/\(n≠n+1)/\(n+1≠n)/\(n<=n+1)/\(n<n+1+1)/\(n≠n+1+1)/\(n+1+1≠n)/\(n<=n+1+1)/\(n<n+1+1+1)/\(n≠n+1+1+1)/\(n+1+1+1≠n)/\(n<=n+1+1+1)/\(n<n+1+1+1+1)/\(n≠n+1+1+1+1)/\(n+1+1+1+1≠n)/\(n<=n+1+1+1+1)/\(n<n+1+1+1+1+1)/\(n≠n+1+1+1+1+1)/\(n+1+1+1+1+1≠n)/\(n<=n+1+1+1+1+1)/\(n<n+1+1+1+1+1+1)/\(n≠n+1+1+1+1+1+1)/\(n+1+1+1+1+1+1≠n)/\(n<=n+1+1+1+1+1+1)/\(n<n+1+1+1+1+1+1+1)/\(n≠n+1+1+1+1+1+1+1)/\(n+1+1+1+1+1+1+1≠n)/\(n<=n+1+1+1+1+1+1+1)/\(n+1<n+1+1)/\(n+1≠n+1+1)/\(n+1+1≠n+1)/\(n+1<=n+1+1)/\(n+1<n+1+1+1)/\(n+1≠n+1+1+1)/\(n+1+1+1≠n+1)/\(n+1<=n+1+1+1)/\(n+1<n+1+1+1+1)/\(n+1≠n+1+1+1+1)/\(n+1+1+1+1≠n+1)/\(n+1<=n+1+1+1+1)/\(n+1<n+1+1+1+1+1)/\(n+1≠n+1+1+1+1+1)/\(n+1+1+1+1+1≠n+1)/\(n+1<=n+1+1+1+1+1)/\(n+1<n+1+1+1+1+1+1)/\(n+1≠n+1+1+1+1+1+1)/\(n+1+1+1+1+1+1≠n+1)/\(n+1<=n+1+1+1+1+1+1)/\(n+1<n+1+1+1+1+1+1+1)/\(n+1≠n+1+1+1+1+1+1+1)/\(n+1+1+1+1+1+1+1≠n+1)/\(n+1<=n+1+1+1+1+1+1+1)/\(n+1+1<n+1+1+1)/\(n+1+1≠n+1+1+1)/\(n+1+1+1≠n+1+1)/\(n+1+1<=n+1+1+1)/\(n+1+1<n+1+1+1+1)/\(n+1+1≠n+1+1+1+1)/\(n+1+1+1+1≠n+1+1)/\(n+1+1<=n+1+1+1+1)/\(n+1+1<n+1+1+1+1+1)/\(n+1+1≠n+1+1+1+1+1)/\(n+1+1+1+1+1≠n+1+1)/\(n+1+1<=n+1+1+1+1+1)/\(n+1+1<n+1+1+1+1+1+1)/\(n+1+1≠n+1+1+1+1+1+1)/\(n+1+1+1+1+1+1≠n+1+1)/\(n+1+1<=n+1+1+1+1+1+1)/\(n+1+1<n+1+1+1+1+1+1+1)/\(n+1+1≠n+1+1+1+1+1+1+1)/\(n+1+1+1+1+1+1+1≠n+1+1)/\(n+1+1<=n+1+1+1+1+1+1+1)/\(n+1+1+1<n+1+1+1+1)/\(n+1+1+1≠n+1+1+1+1)/\(n+1+1+1+1≠n+1+1+1)/\(n+1+1+1<=n+1+1+1+1)/\(n+1+1+1<n+1+1+1+1+1)/\(n+1+1+1≠n+1+1+1+1+1)/\(n+1+1+1+1+1≠n+1+1+1)/\(n+1+1+1<=n+1+1+1+1+1)/\(n+1+1+1<n+1+1+1+1+1+1)/\(n+1+1+1≠n+1+1+1+1+1+1)/\(n+1+1+1+1+1+1≠n+1+1+1)/\(n+1+1+1<=n+1+1+1+1+1+1)/\(n+1+1+1<n+1+1+1+1+1+1+1)/\(n+1+1+1≠n+1+1+1+1+1+1+1)/\(n+1+1+1+1+1+1+1≠n+1+1+1)/\(n+1+1+1<=n+1+1+1+1+1+1+1)/\(n+1+1+1+1<n+1+1+1+1+1)/\(n+1+1+1+1≠n+1+1+1+1+1)/\(n+1+1+1+1+1≠n+1+1+1+1)/\(n+1+1+1+1<=n+1+1+1+1+1)/\(n+1+1+1+1<n+1+1+1+1+1+1)/\(n+1+1+1+1≠n+1+1+1+1+1+1)/\(n+1+1+1+1+1+1≠n+1+1+1+1)/\(n+1+1+1+1<=n+1+1+1+1+1+1)/\(n+1+1+1+1<n+1+1+1+1+1+1+1)/\(n+1+1+1+1≠n+1+1+1+1+1+1+1)/\(n+1+1+1+1+1+1+1≠n+1+1+1+1)/\(n+1+1+1+1<=n+1+1+1+1+1+1+1)/\(n+1+1+1+1+1<n+1+1+1+1+1+1)/\(n+1+1+1+1+1≠n+1+1+1+1+1+1)/\(n+1+1+1+1+1+1≠n+1+1+1+1+1)/\(n+1+1+1+1+1<=n+1+1+1+1+1+1)/\(n+1+1+1+1+1<n+1+1+1+1+1+1+1)/\(n+1+1+1+1+1≠n+1+1+1+1+1+1+1)/\(n+1+1+1+1+1+1+1≠n+1+1+1+1+1)/\(n+1+1+1+1+1<=n+1+1+1+1+1+1+1)/\(n+1+1+1+1+1+1<n+1+1+1+1+1+1+1)/\(n+1+1+1+1+1+1≠n+1+1+1+1+1+1+1)/\(n+1+1+1+1+1+1+1≠n+1+1+1+1+1+1)/\(n+1+1+1+1+1+1<=n+1+1+1+1+1+1+1):=by
 refine ⟨?_,?_,?_,?_,?_,?_,?_,?_,?_,?_,?_,?_,?_,?_,?_,?_,?_,?_,?_,?_,?_,?_,?_,?_,?_,?_,?_,?_,?_,?_,?_,?_,?_,?_,?_,?_,?_,?_,?_,?_,?_,?_,?_,?_,?_,?_,?_,?_,?_,?_,?_,?_,?_,?_,?_,?_,?_,?_,?_,?_,?_,?_,?_,?_,?_,?_,?_,?_,?_,?_,?_,?_,?_,?_,?_,?_,?_,?_,?_,?_,?_,?_,?_,?_,?_,?_,?_,?_,?_,?_,?_,?_,?_,?_,?_,?_,?_,?_,?_,?_,?_,?_,?_,?_,?_,?_,?_,?_,?_,?_,?_,?_⟩<;>omega
def ApY (s:Sto) (k:Nat) (a:AV) (xs:List AV):Prop:=a.isCell=true/\UnderE s.n a/\(∀ s',Sim s s'->AR s' k a=some (xs.length,(xs.map AV.cells).flatten))/\(xs.length=0->∀ s':Sto,(∀ id,id<s.n->s'.get id=s.get id)->AR s' k a=some (0,[]))
theorem ApY.sl {s:Sto} {k:Nat} {a:AV} {xs:List AV} (h:Sl a xs) (hu:UnderE 0 a) (hc:∀ x∈xs,x.cells.length=k/\x.cells.all AV.isCell=true):ApY s k a xs:=by
 have key:∀ s',AR s' k a=some (xs.length,(xs.map AV.cells).flatten):=fun s'=>by
  rcases h.1 with ⟨rfl,rfl⟩ | ⟨c,rfl⟩
  ·rfl
  ·rw [LY hc,<-List.flatMap_def]
 exact ⟨h.cell,hu.mono (Nat.zero_le _),fun s' _=>key s',fun h0 s' _=>by rw [key,h0,List.length_eq_zero_iff.1 h0];rfl⟩
theorem ApY.sim {s s':Sto} {k:Nat} {a:AV} {xs:List AV} (h:ApY s k a xs) (hs:Sim s s'):ApY s' k a xs:=⟨h.1,h.2.1.mono hs.1,fun s'' h'=>h.2.2.1 s'' (hs.trans h'),fun h0 s'' h'=>h.2.2.2 h0 s'' fun id hid=>(h' id (Nat.lt_of_lt_of_le hid hs.1)).trans (hs.2 id hid)⟩
def Old (n0:Nat) (o0:Tr AObj) (n:Nat) (o:Tr AObj):Prop:=n0<=n/\∀ id,id<n0->o.get id=o0.get id
theorem Old.sim {n0 low0 n low:Nat} {o0 o:Tr AObj} (h:Old n0 o0 n o):Sim ⟨n0,low0,o0⟩ ⟨n,low,o⟩:=⟨h.1,fun id hid=>by
 have hid':id<n0:=hid
 rw [Sto.get_mk (Nat.lt_of_lt_of_le hid' h.1),Sto.get_mk hid'];exact h.2 id hid'⟩
theorem ApY.old {n0 low0 n low:Nat} {o0 o:Tr AObj} {k:Nat} {a:AV} {xs:List AV} (h:ApY ⟨n0,low0,o0⟩ k a xs) (ho:Old n0 o0 n o):AR ⟨n,low,o⟩ k a=some (xs.length,(xs.map AV.cells).flatten):=h.2.2.1 _ ho.sim
end
end Go.Abs
namespace Go.Proofs.YtifmdaalhclhgaaGreat
open Go.Abs Go Go.Abs.TryzF
noncomputable section
set_option maxRecDepth 10000
theorem aEz {T:AV->Prop} (h:Tu T) {xs:List AV} (hx:∀ x∈xs,T x):∀ x∈xs,x.cells.length=1/\x.cells.all AV.isCell=true:=fun x hm=>by
 rw [dW (h x (hx x hm)).2];exact ⟨rfl,by simp [(h x (hx x hm)).2]⟩
theorem UN {k:Nat} {T:AV->Prop} (h:Tk k T) {xs:List AV} (hx:∀ x∈xs,T x):∀ x∈xs,x.cells.length=k/\x.cells.all AV.isCell=true:=fun x hm=>by
 obtain ⟨_,cs,rfl,h1,h2⟩:=h x (hx x hm);exact ⟨h1,h2⟩
theorem uW {k:Nat} {xs:List AV} (hc:∀ x∈xs,x.cells.length=k/\x.cells.all AV.isCell=true):(xs.map AV.cells).flatten.all AV.isCell=true:=List.all_eq_true.2 fun y hy=>by
 obtain ⟨l,hl,hy⟩:=List.mem_flatten.1 hy;obtain ⟨x,hx,rfl⟩:=List.mem_map.1 hl;exact List.all_eq_true.1 (hc x hx).2 y hy
theorem yD {k lo n:Nat} {o:Tr AObj} {xs:List AV} (h:xs.length=0):AccM k lo .nils n o (xs.map AV.cells):=.inl ⟨by simp [List.length_eq_zero_iff.1 h],rfl⟩
theorem yE {k lo n id:Nat} {o:Tr AObj} {xs:List AV} (h:xs.length≠0) (hg:o.get id=some (bF 0 (xs.map AV.cells).flatten)) (h1:id<n) (h2:lo<=id):AccM k lo (.sl id 0 0 xs.length (.room k)) n o (xs.map AV.cells):=.inr ⟨fun e=>h (by simpa using congrArg List.length e),id,0,by rw [List.length_map],hg,h1,h2⟩
theorem tE {n:Nat}:∀ {l:List AV},(∀ y∈l,UnderE 0 y)->fJ n l
 | [],_=>trivial
 | y::l,h=>⟨(h y (List.mem_cons_self ..)).mono (Nat.zero_le _),tE fun z hz=>h z (List.mem_cons_of_mem _ hz)⟩
section
variable {os ts us is no ns fs mm cs os' ts' us' is' no' d g:AV}
end
end
end Go.Proofs.YtifmdaalhclhgaaGreat
