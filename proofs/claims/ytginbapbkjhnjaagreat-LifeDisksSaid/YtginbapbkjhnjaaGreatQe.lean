/-
  Points: what is missing is put in.
-/
import Derived.Test.YtginbapbkjhnjaaGreatPj
set_option linter.unusedVariables false
set_option linter.unusedSimpArgs false
namespace Go.Proofs.YtginbapbkjhnjaaGreat
open Go.Abs Go Go.Abs.TryzF
noncomputable section
set_option maxRecDepth 10000
def pst (os ts us is no ns fs mm cs os' ts' us' is' no' d g:AV):List AV:=[os,ts,us,is,no,ns,fs,mm,cs,os',ts',us',is',no',d,g]
section
variable {os ts us is no ns fs mm cs os' ts' us' is' no' d g:AV}
end
section
variable {os ts us is no ns fs mm cs os' ts' us' is' no' d g:AV}
end
end
end Go.Proofs.YtginbapbkjhnjaaGreat
/-
 The abstract machine: a range over a function that looks at the store.
-/
namespace Go.Abs
noncomputable section
section
variable {P:Program} {O:Orc} {H:cG}
end
end
end Go.Abs
/-
 Points: which objects are missing.
-/
namespace Go.Proofs.YtginbapbkjhnjaaGreat
open Go.Abs Go Go.Abs.TryzF
noncomputable section
set_option maxRecDepth 10000
section
variable {os ts us is no ns fs mm cs os' ts' us' is' no' d g:AV}
end
end
end Go.Proofs.YtginbapbkjhnjaaGreat
namespace Go.Proofs.YtginbapbkjhnjaaGreat
open Go.Abs Go Go.Abs.TryzF
noncomputable section
set_option maxRecDepth 10000
theorem lI {l:List AV} (h:UnderE 0 (.agg l)):∀ y∈l,UnderE 0 y:=fun y hy=>by
 obtain ⟨d,hd⟩:=h
 cases d with
 | zero=>simp [AV.under]at hd
 | succ d=>exact ⟨d,List.all_eq_true.1 hd y hy⟩
end
end Go.Proofs.YtginbapbkjhnjaaGreat
/-
 The reference of worlds: copies.
-/
namespace Go.Abs
noncomputable section
theorem BO {n:Nat}:(n<n+1)/\(n≠n+1)/\(n+1≠n)/\(n<=n+1)/\(n<n+1+1)/\(n≠n+1+1)/\(n+1+1≠n)/\(n<=n+1+1)/\(n<n+1+1+1)/\(n≠n+1+1+1)/\(n+1+1+1≠n)/\(n<=n+1+1+1)/\(n<n+1+1+1+1)/\(n≠n+1+1+1+1)/\(n+1+1+1+1≠n)/\(n<=n+1+1+1+1)/\(n<n+1+1+1+1+1)/\(n≠n+1+1+1+1+1)/\(n+1+1+1+1+1≠n)/\(n<=n+1+1+1+1+1)/\(n<n+1+1+1+1+1+1)/\(n≠n+1+1+1+1+1+1)/\(n+1+1+1+1+1+1≠n)/\(n<=n+1+1+1+1+1+1)/\(n<n+1+1+1+1+1+1+1)/\(n≠n+1+1+1+1+1+1+1)/\(n+1+1+1+1+1+1+1≠n)/\(n<=n+1+1+1+1+1+1+1)/\(n+1<n+1+1)/\(n+1≠n+1+1)/\(n+1+1≠n+1)/\(n+1<=n+1+1)/\(n+1<n+1+1+1)/\(n+1≠n+1+1+1)/\(n+1+1+1≠n+1)/\(n+1<=n+1+1+1)/\(n+1<n+1+1+1+1)/\(n+1≠n+1+1+1+1)/\(n+1+1+1+1≠n+1)/\(n+1<=n+1+1+1+1)/\(n+1<n+1+1+1+1+1)/\(n+1≠n+1+1+1+1+1)/\(n+1+1+1+1+1≠n+1)/\(n+1<=n+1+1+1+1+1)/\(n+1<n+1+1+1+1+1+1)/\(n+1≠n+1+1+1+1+1+1)/\(n+1+1+1+1+1+1≠n+1)/\(n+1<=n+1+1+1+1+1+1)/\(n+1<n+1+1+1+1+1+1+1)/\(n+1≠n+1+1+1+1+1+1+1)/\(n+1+1+1+1+1+1+1≠n+1)/\(n+1<=n+1+1+1+1+1+1+1)/\(n+1+1<n+1+1+1)/\(n+1+1≠n+1+1+1)/\(n+1+1+1≠n+1+1)/\(n+1+1<=n+1+1+1)/\(n+1+1<n+1+1+1+1)/\(n+1+1≠n+1+1+1+1)/\(n+1+1+1+1≠n+1+1)/\(n+1+1<=n+1+1+1+1)/\(n+1+1<n+1+1+1+1+1)/\(n+1+1≠n+1+1+1+1+1)/\(n+1+1+1+1+1≠n+1+1)/\(n+1+1<=n+1+1+1+1+1)/\(n+1+1<n+1+1+1+1+1+1)/\(n+1+1≠n+1+1+1+1+1+1)/\(n+1+1+1+1+1+1≠n+1+1)/\(n+1+1<=n+1+1+1+1+1+1)/\(n+1+1<n+1+1+1+1+1+1+1)/\(n+1+1≠n+1+1+1+1+1+1+1)/\(n+1+1+1+1+1+1+1≠n+1+1)/\(n+1+1<=n+1+1+1+1+1+1+1)/\(n+1+1+1<n+1+1+1+1)/\(n+1+1+1≠n+1+1+1+1)/\(n+1+1+1+1≠n+1+1+1)/\(n+1+1+1<=n+1+1+1+1)/\(n+1+1+1<n+1+1+1+1+1)/\(n+1+1+1≠n+1+1+1+1+1)/\(n+1+1+1+1+1≠n+1+1+1)/\(n+1+1+1<=n+1+1+1+1+1)/\(n+1+1+1<n+1+1+1+1+1+1)/\(n+1+1+1≠n+1+1+1+1+1+1)/\(n+1+1+1+1+1+1≠n+1+1+1)/\(n+1+1+1<=n+1+1+1+1+1+1)/\(n+1+1+1<n+1+1+1+1+1+1+1)/\(n+1+1+1≠n+1+1+1+1+1+1+1)/\(n+1+1+1+1+1+1+1≠n+1+1+1)/\(n+1+1+1<=n+1+1+1+1+1+1+1)/\(n+1+1+1+1<n+1+1+1+1+1)/\(n+1+1+1+1≠n+1+1+1+1+1)/\(n+1+1+1+1+1≠n+1+1+1+1)/\(n+1+1+1+1<=n+1+1+1+1+1)/\(n+1+1+1+1<n+1+1+1+1+1+1)/\(n+1+1+1+1≠n+1+1+1+1+1+1)/\(n+1+1+1+1+1+1≠n+1+1+1+1)/\(n+1+1+1+1<=n+1+1+1+1+1+1)/\(n+1+1+1+1<n+1+1+1+1+1+1+1)/\(n+1+1+1+1≠n+1+1+1+1+1+1+1)/\(n+1+1+1+1+1+1+1≠n+1+1+1+1)/\(n+1+1+1+1<=n+1+1+1+1+1+1+1)/\(n+1+1+1+1+1<n+1+1+1+1+1+1)/\(n+1+1+1+1+1≠n+1+1+1+1+1+1)/\(n+1+1+1+1+1+1≠n+1+1+1+1+1)/\(n+1+1+1+1+1<=n+1+1+1+1+1+1)/\(n+1+1+1+1+1<n+1+1+1+1+1+1+1)/\(n+1+1+1+1+1≠n+1+1+1+1+1+1+1)/\(n+1+1+1+1+1+1+1≠n+1+1+1+1+1)/\(n+1+1+1+1+1<=n+1+1+1+1+1+1+1)/\(n+1+1+1+1+1+1<n+1+1+1+1+1+1+1)/\(n+1+1+1+1+1+1≠n+1+1+1+1+1+1+1)/\(n+1+1+1+1+1+1+1≠n+1+1+1+1+1+1)/\(n+1+1+1+1+1+1<=n+1+1+1+1+1+1+1):=by
 refine ⟨?_,?_,?_,?_,?_,?_,?_,?_,?_,?_,?_,?_,?_,?_,?_,?_,?_,?_,?_,?_,?_,?_,?_,?_,?_,?_,?_,?_,?_,?_,?_,?_,?_,?_,?_,?_,?_,?_,?_,?_,?_,?_,?_,?_,?_,?_,?_,?_,?_,?_,?_,?_,?_,?_,?_,?_,?_,?_,?_,?_,?_,?_,?_,?_,?_,?_,?_,?_,?_,?_,?_,?_,?_,?_,?_,?_,?_,?_,?_,?_,?_,?_,?_,?_,?_,?_,?_,?_,?_,?_,?_,?_,?_,?_,?_,?_,?_,?_,?_,?_,?_,?_,?_,?_,?_,?_,?_,?_,?_,?_,?_,?_⟩<;>omega
theorem fN {i n:Nat} (h:i<n):(i<n)/\(i≠n)/\(n≠i)/\(i<n+1)/\(i≠n+1)/\(n+1≠i)/\(i<n+1+1)/\(i≠n+1+1)/\(n+1+1≠i)/\(i<n+1+1+1)/\(i≠n+1+1+1)/\(n+1+1+1≠i)/\(i<n+1+1+1+1)/\(i≠n+1+1+1+1)/\(n+1+1+1+1≠i)/\(i<n+1+1+1+1+1)/\(i≠n+1+1+1+1+1)/\(n+1+1+1+1+1≠i)/\(i<n+1+1+1+1+1+1)/\(i≠n+1+1+1+1+1+1)/\(n+1+1+1+1+1+1≠i)/\(i<n+1+1+1+1+1+1+1)/\(i≠n+1+1+1+1+1+1+1)/\(n+1+1+1+1+1+1+1≠i):=by
 refine ⟨?_,?_,?_,?_,?_,?_,?_,?_,?_,?_,?_,?_,?_,?_,?_,?_,?_,?_,?_,?_,?_,?_,?_,?_⟩<;>omega
def ApY (s:Sto) (k:Nat) (a:AV) (xs:List AV):Prop:=a.isCell=true/\UnderE s.n a/\(∀ s',Sim s s'->uK s' k a=some (xs.length,(xs.map AV.cells).flatten))/\(xs.length=0->∀ s':Sto,(∀ id,id<s.n->s'.get id=s.get id)->uK s' k a=some (0,[]))
theorem ApY.sl {s:Sto} {k:Nat} {a:AV} {xs:List AV} (h:Sl a xs) (hu:UnderE 0 a) (hc:∀ x∈xs,x.cells.length=k/\x.cells.all AV.isCell=true):ApY s k a xs:=by
 have key:∀ s',uK s' k a=some (xs.length,(xs.map AV.cells).flatten):=fun s'=>by
  rcases h.1 with ⟨rfl,rfl⟩ | ⟨c,rfl⟩
  ·rfl
  ·rw [vY hc,<-List.flatMap_def]
 exact ⟨h.cell,hu.mono (Nat.zero_le _),fun s' _=>key s',fun h0 s' _=>by rw [key,h0,List.length_eq_zero_iff.1 h0];rfl⟩
theorem ApY.sim {s s':Sto} {k:Nat} {a:AV} {xs:List AV} (h:ApY s k a xs) (hs:Sim s s'):ApY s' k a xs:=⟨h.1,h.2.1.mono hs.1,fun s'' h'=>h.2.2.1 s'' (hs.trans h'),fun h0 s'' h'=>h.2.2.2 h0 s'' fun id hid=>(h' id (Nat.lt_of_lt_of_le hid hs.1)).trans (hs.2 id hid)⟩
def Old (n0:Nat) (o0:Tr AObj) (n:Nat) (o:Tr AObj):Prop:=n0<=n/\∀ id,id<n0->o.get id=o0.get id
theorem Old.sim {n0 low0 n low:Nat} {o0 o:Tr AObj} (h:Old n0 o0 n o):Sim ⟨n0,low0,o0⟩ ⟨n,low,o⟩:=⟨h.1,fun id hid=>by
 have hid':id<n0:=hid
 rw [Sto.get_mk (Nat.lt_of_lt_of_le hid' h.1),Sto.get_mk hid'];exact h.2 id hid'⟩
theorem BP:(∀ {n0:Nat} {o0:Tr AObj},Old n0 o0 n0 o0)/\(∀ {n0 n:Nat} {o0 o:Tr AObj} {x:AObj},Old n0 o0 n o->Old n0 o0 (n+1) (o.set n x))/\(∀ {n0 n i:Nat} {o0 o:Tr AObj} {x:AObj},n0<=i->Old n0 o0 n o->Old n0 o0 n (o.set i x))/\
 (∀ {n:Nat},n<=n)/\(∀ {n m:Nat},n<=m->n<=m+1):=
 ⟨⟨Nat.le_refl _,fun _ _=>rfl⟩,fun {n0 n o0 o x} h=>⟨Nat.le_succ_of_le h.1,fun id hid=>by rw [Tr.get_set_ne _ _ (Nat.ne_of_lt (Nat.lt_of_lt_of_le hid h.1))];exact h.2 id hid⟩,
   fun {n0 n i o0 o x} hi h=>⟨h.1,fun id hid=>by rw [Tr.get_set_ne _ _ (Nat.ne_of_lt (Nat.lt_of_lt_of_le hid hi))];exact h.2 id hid⟩,Nat.le_refl _,fun h=>Nat.le_succ_of_le h⟩
theorem SU {n0:Nat} {o0:Tr AObj}:(∀ {x y:AObj},Old n0 o0 (n0+1+1) ((o0.set n0 x).set (n0+1) y))/\(∀ {x y z:AObj},Old n0 o0 (n0+1+1+1) (((o0.set n0 x).set (n0+1) y).set (n0+1+1) z))/\
 (∀ {x y z u:AObj},Old n0 o0 (n0+1+1+1+1) ((((o0.set n0 x).set (n0+1) y).set (n0+1+1) z).set (n0+1+1+1) u))/\(∀ {x y z u v:AObj},Old n0 o0 (n0+1+1+1+1+1) (((((o0.set n0 x).set (n0+1) y).set (n0+1+1) z).set (n0+1+1+1) u).set (n0+1+1+1+1) v)):=by
 obtain ⟨h1,h2,_⟩:=BP
 exact ⟨h2 (h2 h1),h2 (h2 (h2 h1)),h2 (h2 (h2 (h2 h1))),h2 (h2 (h2 (h2 (h2 h1))))⟩
theorem ApY.old {n0 low0 n low:Nat} {o0 o:Tr AObj} {k:Nat} {a:AV} {xs:List AV} (h:ApY ⟨n0,low0,o0⟩ k a xs) (ho:Old n0 o0 n o):uK ⟨n,low,o⟩ k a=some (xs.length,(xs.map AV.cells).flatten):=h.2.2.1 _ ho.sim
end
end Go.Abs
namespace Go.Proofs.YtginbapbkjhnjaaGreat
open Go.Abs Go Go.Abs.TryzF
noncomputable section
set_option maxRecDepth 10000
theorem vM {T:AV->Prop} (h:Tu T) {xs:List AV} (hx:∀ x∈xs,T x):∀ x∈xs,x.cells.length=1/\x.cells.all AV.isCell=true:=fun x hm=>by
 rw [aV (h x (hx x hm)).2];exact ⟨rfl,by simp [(h x (hx x hm)).2]⟩
theorem nL {k:Nat} {T:AV->Prop} (h:Tk k T) {xs:List AV} (hx:∀ x∈xs,T x):∀ x∈xs,x.cells.length=k/\x.cells.all AV.isCell=true:=fun x hm=>by
 obtain ⟨_,cs,rfl,h1,h2⟩:=h x (hx x hm);exact ⟨h1,h2⟩
section
variable {os ts us is no ns fs mm cs os' ts' us' is' no' d g:AV}
end
end
end Go.Proofs.YtginbapbkjhnjaaGreat
