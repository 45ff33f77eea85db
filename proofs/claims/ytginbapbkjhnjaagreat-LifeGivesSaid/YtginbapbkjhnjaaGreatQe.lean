/-
  Points: what is missing is put in.
-/
import Derived.Test.YtginbapbkjhnjaaGreatPm
import Derived.Test.YtginbapbkjhnjaaGreatPj
set_option linter.unusedVariables false
set_option linter.unusedSimpArgs false
namespace Go.Proofs.YtginbapbkjhnjaaGreat
open Go.Abs Go Go.Abs.TryzF
noncomputable section
set_option maxRecDepth 10000
theorem oU {l:List AV} (h:UnderE 0 (.agg l)):∀ y∈l,UnderE 0 y:=fun y hy=>by
 obtain ⟨d,hd⟩:=h
 cases d with
 | zero=>simp [AV.under]at hd
 | succ d=>exact ⟨d,List.all_eq_true.1 hd y hy⟩
end
end Go.Proofs.YtginbapbkjhnjaaGreat
/-
 The reference of worlds: copies.
-/
namespace Go.Abs
noncomputable section
theorem frM {n:Nat}:(n<n+1)/\(n≠n+1)/\(n+1≠n)/\(n<=n+1)/\(n<n+1+1)/\(n≠n+1+1)/\(n+1+1≠n)/\(n<=n+1+1)/\(n<n+1+1+1)/\(n≠n+1+1+1)/\(n+1+1+1≠n)/\(n<=n+1+1+1)/\(n<n+1+1+1+1)/\(n≠n+1+1+1+1)/\(n+1+1+1+1≠n)/\(n<=n+1+1+1+1)/\(n<n+1+1+1+1+1)/\(n≠n+1+1+1+1+1)/\(n+1+1+1+1+1≠n)/\(n<=n+1+1+1+1+1)/\(n<n+1+1+1+1+1+1)/\(n≠n+1+1+1+1+1+1)/\(n+1+1+1+1+1+1≠n)/\(n<=n+1+1+1+1+1+1)/\(n<n+1+1+1+1+1+1+1)/\(n≠n+1+1+1+1+1+1+1)/\(n+1+1+1+1+1+1+1≠n)/\(n<=n+1+1+1+1+1+1+1)/\(n+1<n+1+1)/\(n+1≠n+1+1)/\(n+1+1≠n+1)/\(n+1<=n+1+1)/\(n+1<n+1+1+1)/\(n+1≠n+1+1+1)/\(n+1+1+1≠n+1)/\(n+1<=n+1+1+1)/\(n+1<n+1+1+1+1)/\(n+1≠n+1+1+1+1)/\(n+1+1+1+1≠n+1)/\(n+1<=n+1+1+1+1)/\(n+1<n+1+1+1+1+1)/\(n+1≠n+1+1+1+1+1)/\(n+1+1+1+1+1≠n+1)/\(n+1<=n+1+1+1+1+1)/\(n+1<n+1+1+1+1+1+1)/\(n+1≠n+1+1+1+1+1+1)/\(n+1+1+1+1+1+1≠n+1)/\(n+1<=n+1+1+1+1+1+1)/\(n+1<n+1+1+1+1+1+1+1)/\(n+1≠n+1+1+1+1+1+1+1)/\(n+1+1+1+1+1+1+1≠n+1)/\(n+1<=n+1+1+1+1+1+1+1)/\(n+1+1<n+1+1+1)/\(n+1+1≠n+1+1+1)/\(n+1+1+1≠n+1+1)/\(n+1+1<=n+1+1+1)/\(n+1+1<n+1+1+1+1)/\(n+1+1≠n+1+1+1+1)/\(n+1+1+1+1≠n+1+1)/\(n+1+1<=n+1+1+1+1)/\(n+1+1<n+1+1+1+1+1)/\(n+1+1≠n+1+1+1+1+1)/\(n+1+1+1+1+1≠n+1+1)/\(n+1+1<=n+1+1+1+1+1)/\(n+1+1<n+1+1+1+1+1+1)/\(n+1+1≠n+1+1+1+1+1+1)/\(n+1+1+1+1+1+1≠n+1+1)/\(n+1+1<=n+1+1+1+1+1+1)/\(n+1+1<n+1+1+1+1+1+1+1)/\(n+1+1≠n+1+1+1+1+1+1+1)/\(n+1+1+1+1+1+1+1≠n+1+1)/\(n+1+1<=n+1+1+1+1+1+1+1)/\(n+1+1+1<n+1+1+1+1)/\(n+1+1+1≠n+1+1+1+1)/\(n+1+1+1+1≠n+1+1+1)/\(n+1+1+1<=n+1+1+1+1)/\(n+1+1+1<n+1+1+1+1+1)/\(n+1+1+1≠n+1+1+1+1+1)/\(n+1+1+1+1+1≠n+1+1+1)/\(n+1+1+1<=n+1+1+1+1+1)/\(n+1+1+1<n+1+1+1+1+1+1)/\(n+1+1+1≠n+1+1+1+1+1+1)/\(n+1+1+1+1+1+1≠n+1+1+1)/\(n+1+1+1<=n+1+1+1+1+1+1)/\(n+1+1+1<n+1+1+1+1+1+1+1)/\(n+1+1+1≠n+1+1+1+1+1+1+1)/\(n+1+1+1+1+1+1+1≠n+1+1+1)/\(n+1+1+1<=n+1+1+1+1+1+1+1)/\(n+1+1+1+1<n+1+1+1+1+1)/\(n+1+1+1+1≠n+1+1+1+1+1)/\(n+1+1+1+1+1≠n+1+1+1+1)/\(n+1+1+1+1<=n+1+1+1+1+1)/\(n+1+1+1+1<n+1+1+1+1+1+1)/\(n+1+1+1+1≠n+1+1+1+1+1+1)/\(n+1+1+1+1+1+1≠n+1+1+1+1)/\(n+1+1+1+1<=n+1+1+1+1+1+1)/\(n+1+1+1+1<n+1+1+1+1+1+1+1)/\(n+1+1+1+1≠n+1+1+1+1+1+1+1)/\(n+1+1+1+1+1+1+1≠n+1+1+1+1)/\(n+1+1+1+1<=n+1+1+1+1+1+1+1)/\(n+1+1+1+1+1<n+1+1+1+1+1+1)/\(n+1+1+1+1+1≠n+1+1+1+1+1+1)/\(n+1+1+1+1+1+1≠n+1+1+1+1+1)/\(n+1+1+1+1+1<=n+1+1+1+1+1+1)/\(n+1+1+1+1+1<n+1+1+1+1+1+1+1)/\(n+1+1+1+1+1≠n+1+1+1+1+1+1+1)/\(n+1+1+1+1+1+1+1≠n+1+1+1+1+1)/\(n+1+1+1+1+1<=n+1+1+1+1+1+1+1)/\(n+1+1+1+1+1+1<n+1+1+1+1+1+1+1)/\(n+1+1+1+1+1+1≠n+1+1+1+1+1+1+1)/\(n+1+1+1+1+1+1+1≠n+1+1+1+1+1+1)/\(n+1+1+1+1+1+1<=n+1+1+1+1+1+1+1):=by
 refine ⟨?_,?_,?_,?_,?_,?_,?_,?_,?_,?_,?_,?_,?_,?_,?_,?_,?_,?_,?_,?_,?_,?_,?_,?_,?_,?_,?_,?_,?_,?_,?_,?_,?_,?_,?_,?_,?_,?_,?_,?_,?_,?_,?_,?_,?_,?_,?_,?_,?_,?_,?_,?_,?_,?_,?_,?_,?_,?_,?_,?_,?_,?_,?_,?_,?_,?_,?_,?_,?_,?_,?_,?_,?_,?_,?_,?_,?_,?_,?_,?_,?_,?_,?_,?_,?_,?_,?_,?_,?_,?_,?_,?_,?_,?_,?_,?_,?_,?_,?_,?_,?_,?_,?_,?_,?_,?_,?_,?_,?_,?_,?_,?_⟩<;>omega
theorem BX {i n:Nat} (h:i<n):(i<n)/\(i≠n)/\(n≠i)/\(i<n+1)/\(i≠n+1)/\(n+1≠i)/\(i<n+1+1)/\(i≠n+1+1)/\(n+1+1≠i)/\(i<n+1+1+1)/\(i≠n+1+1+1)/\(n+1+1+1≠i)/\(i<n+1+1+1+1)/\(i≠n+1+1+1+1)/\(n+1+1+1+1≠i)/\(i<n+1+1+1+1+1)/\(i≠n+1+1+1+1+1)/\(n+1+1+1+1+1≠i)/\(i<n+1+1+1+1+1+1)/\(i≠n+1+1+1+1+1+1)/\(n+1+1+1+1+1+1≠i)/\(i<n+1+1+1+1+1+1+1)/\(i≠n+1+1+1+1+1+1+1)/\(n+1+1+1+1+1+1+1≠i):=by
 refine ⟨?_,?_,?_,?_,?_,?_,?_,?_,?_,?_,?_,?_,?_,?_,?_,?_,?_,?_,?_,?_,?_,?_,?_,?_⟩<;>omega
def ApY (s:Sto) (k:Nat) (a:AV) (xs:List AV):Prop:=a.isCell=true/\UnderE s.n a/\(∀ s',Sim s s'->AY s' k a=some (xs.length,(xs.map AV.cells).flatten))/\(xs.length=0->∀ s':Sto,(∀ id,id<s.n->s'.get id=s.get id)->AY s' k a=some (0,[]))
theorem ApY.sl {s:Sto} {k:Nat} {a:AV} {xs:List AV} (h:Sl a xs) (hu:UnderE 0 a) (hc:∀ x∈xs,x.cells.length=k/\x.cells.all AV.isCell=true):ApY s k a xs:=by
 have key:∀ s',AY s' k a=some (xs.length,(xs.map AV.cells).flatten):=fun s'=>by
  rcases h.1 with ⟨rfl,rfl⟩ | ⟨c,rfl⟩
  ·rfl
  ·rw [rY hc,<-List.flatMap_def]
 exact ⟨h.cell,hu.mono (Nat.zero_le _),fun s' _=>key s',fun h0 s' _=>by rw [key,h0,List.length_eq_zero_iff.1 h0];rfl⟩
theorem ApY.sim {s s':Sto} {k:Nat} {a:AV} {xs:List AV} (h:ApY s k a xs) (hs:Sim s s'):ApY s' k a xs:=⟨h.1,h.2.1.mono hs.1,fun s'' h'=>h.2.2.1 s'' (hs.trans h'),fun h0 s'' h'=>h.2.2.2 h0 s'' fun id hid=>(h' id (Nat.lt_of_lt_of_le hid hs.1)).trans (hs.2 id hid)⟩
def Old (n0:Nat) (o0:Tr AObj) (n:Nat) (o:Tr AObj):Prop:=n0<=n/\∀ id,id<n0->o.get id=o0.get id
theorem Old.sim {n0 low0 n low:Nat} {o0 o:Tr AObj} (h:Old n0 o0 n o):Sim ⟨n0,low0,o0⟩ ⟨n,low,o⟩:=⟨h.1,fun id hid=>by
 have hid':id<n0:=hid
 rw [Sto.get_mk (Nat.lt_of_lt_of_le hid' h.1),Sto.get_mk hid'];exact h.2 id hid'⟩
theorem ApY.old {n0 low0 n low:Nat} {o0 o:Tr AObj} {k:Nat} {a:AV} {xs:List AV} (h:ApY ⟨n0,low0,o0⟩ k a xs) (ho:Old n0 o0 n o):AY ⟨n,low,o⟩ k a=some (xs.length,(xs.map AV.cells).flatten):=h.2.2.1 _ ho.sim
end
end Go.Abs
namespace Go.Proofs.YtginbapbkjhnjaaGreat
open Go.Abs Go Go.Abs.TryzF
noncomputable section
set_option maxRecDepth 10000
theorem TQ {T:AV->Prop} (h:Tu T) {xs:List AV} (hx:∀ x∈xs,T x):∀ x∈xs,x.cells.length=1/\x.cells.all AV.isCell=true:=fun x hm=>by
 rw [dH (h x (hx x hm)).2];exact ⟨rfl,by simp [(h x (hx x hm)).2]⟩
section
variable {os ts us is no ns fs mm cs os' ts' us' is' no' d g:AV}
end
end
end Go.Proofs.YtginbapbkjhnjaaGreat
