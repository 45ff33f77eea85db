/-
  Points: what is missing is put in.
-/
import Derived.Test.YtifmdaalhclhgaaGreatPj
set_option linter.unusedVariables false
set_option linter.unusedSimpArgs false
namespace Go.Proofs.YtifmdaalhclhgaaGreat
open Go.Abs Go Go.Abs.TryzF
noncomputable section
set_option maxRecDepth 10000
def pst (os ts us is no ns fs mm cs os' ts' us' is' no' d g:AV):List AV:=[os,ts,us,is,no,ns,fs,mm,cs,os',ts',us',is',no',d,g]
section
variable {os ts us is no ns fs mm cs os' ts' us' is' no' d g:AV}
end
section
variable {os ts us is no ns fs mm cs os' ts' us' is' no' d g:AV}
end
end
end Go.Proofs.YtifmdaalhclhgaaGreat
/-
 The abstract machine: a range over a function that looks at the store.
-/
namespace Go.Abs
noncomputable section
section
variable {P:Program} {O:Orc} {H:dG}
end
end
end Go.Abs
/-
 Points: which objects are missing.
-/
namespace Go.Proofs.YtifmdaalhclhgaaGreat
open Go.Abs Go Go.Abs.TryzF
noncomputable section
set_option maxRecDepth 10000
section
variable {os ts us is no ns fs mm cs os' ts' us' is' no' d g:AV}
end
end
end Go.Proofs.YtifmdaalhclhgaaGreat
namespace Go.Proofs.YtifmdaalhclhgaaGreat
open Go.Abs Go Go.Abs.TryzF
noncomputable section
set_option maxRecDepth 10000
theorem cL {l:List AV} (h:UnderE 0 (.agg l)):∀ y∈l,UnderE 0 y:=fun y hy=>by
 obtain ⟨d,hd⟩:=h
 cases d with
 | zero=>simp [AV.under]at hd
 | succ d=>exact ⟨d,List.all_eq_true.1 hd y hy⟩
theorem stn_frz {k lo hi n:Nat} {s:Sto} {a:AV} {xs:List AV} {T:AV->Prop} (h:StN lo hi s a xs) (hn:n<=lo) (hT:Tk k T) (hx:∀ x∈xs,T x) (hne:xs=[]->a=.nils):Frz s n a (aM xs):=by
 rcases h with ⟨rfl,rfl⟩ | ⟨id,g,c,rfl,hg,hlo,_⟩
 ·exact .und _ dJ
 ·have hl:xs.length≠0:=fun h=>by
   have:=hne (List.length_eq_zero_iff.1 h);cases this
  unfold aM;rw [if_neg hl]
  have:=xP (S:=s) (n:=n) (cap:=c) (len:=xs.length) (Nat.le_trans hn hlo) hg (by rw [List.length_map]) (cM hT hx) (fun x hx' y hy=>by
   obtain ⟨z,hz,rfl⟩:=List.mem_map.1 hx';obtain ⟨hu,cs,rfl,_⟩:=hT z (hx z hz)
   exact ((cL hu y hy).mono (Nat.zero_le n)).und)
  rw [rS hT hx]at this;exact this
end
end Go.Proofs.YtifmdaalhclhgaaGreat
/-
 The reference of worlds: copies.
-/
namespace Go.Abs
noncomputable section
theorem frM {n:Nat}:(n<n+1)/\(n≠n+1)/\(n+1≠n)/\(n<=n+1)/\(n<n+1+1)/\(n≠n+1+1)/\(n+1+1≠n)/\(n<=n+1+1)/\(n<n+1+1+1)/\(n≠n+1+1+1)/\(n+1+1+1≠n)/\(n<=n+1+1+1)/\(n<n+1+1+1+1)/\(n≠n+1+1+1+1)/\(n+1+1+1+1≠n)/\(n<=n+1+1+1+1)/\(n<n+1+1+1+1+1)/\(n≠n+1+1+1+1+1)/\(n+1+1+1+1+1≠n)/\(n<=n+1+1+1+1+1)/\(n<n+1+1+1+1+1+1)/\(n≠n+1+1+1+1+1+1)/\(n+1+1+1+1+1+1≠n)/\(n<=n+1+1+1+1+1+1)/\(n<n+1+1+1+1+1+1+1)/\(n≠n+1+1+1+1+1+1+1)/\(n+1+1+1+1+1+1+1≠n)/\(n<=n+1+1+1+1+1+1+1)/\(n+1<n+1+1)/\(n+1≠n+1+1)/\(n+1+1≠n+1)/\(n+1<=n+1+1)/\(n+1<n+1+1+1)/\(n+1≠n+1+1+1)/\(n+1+1+1≠n+1)/\(n+1<=n+1+1+1)/\(n+1<n+1+1+1+1)/\(n+1≠n+1+1+1+1)/\(n+1+1+1+1≠n+1)/\(n+1<=n+1+1+1+1)/\(n+1<n+1+1+1+1+1)/\(n+1≠n+1+1+1+1+1)/\(n+1+1+1+1+1≠n+1)/\(n+1<=n+1+1+1+1+1)/\(n+1<n+1+1+1+1+1+1)/\(n+1≠n+1+1+1+1+1+1)/\(n+1+1+1+1+1+1≠n+1)/\(n+1<=n+1+1+1+1+1+1)/\(n+1<n+1+1+1+1+1+1+1)/\(n+1≠n+1+1+1+1+1+1+1)/\(n+1+1+1+1+1+1+1≠n+1)/\(n+1<=n+1+1+1+1+1+1+1)/\(n+1+1<n+1+1+1)/\(n+1+1≠n+1+1+1)/\(n+1+1+1≠n+1+1)/\(n+1+1<=n+1+1+1)/\(n+1+1<n+1+1+1+1)/\(n+1+1≠n+1+1+1+1)/\(n+1+1+1+1≠n+1+1)/\(n+1+1<=n+1+1+1+1)/\(n+1+1<n+1+1+1+1+1)/\(n+1+1≠n+1+1+1+1+1)/\(n+1+1+1+1+1≠n+1+1)/\(n+1+1<=n+1+1+1+1+1)/\(n+1+1<n+1+1+1+1+1+1)/\(n+1+1≠n+1+1+1+1+1+1)/\(n+1+1+1+1+1+1≠n+1+1)/\(n+1+1<=n+1+1+1+1+1+1)/\(n+1+1<n+1+1+1+1+1+1+1)/\(n+1+1≠n+1+1+1+1+1+1+1)/\(n+1+1+1+1+1+1+1≠n+1+1)/\(n+1+1<=n+1+1+1+1+1+1+1)/\(n+1+1+1<n+1+1+1+1)/\(n+1+1+1≠n+1+1+1+1)/\(n+1+1+1+1≠n+1+1+1)/\(n+1+1+1<=n+1+1+1+1)/\(n+1+1+1<n+1+1+1+1+1)/\(n+1+1+1≠n+1+1+1+1+1)/\(n+1+1+1+1+1≠n+1+1+1)/\(n+1+1+1<=n+1+1+1+1+1)/\(n+1+1+1<n+1+1+1+1+1+1)/\(n+1+1+1≠n+1+1+1+1+1+1)/\(n+1+1+1+1+1+1≠n+1+1+1)/\(n+1+1+1<=n+1+1+1+1+1+1)/\(n+1+1+1<n+1+1+1+1+1+1+1)/\(n+1+1+1≠n+1+1+1+1+1+1+1)/\(n+1+1+1+1+1+1+1≠n+1+1+1)/\(n+1+1+1<=n+1+1+1+1+1+1+1)/\(n+1+1+1+1<n+1+1+1+1+1)/\(n+1+1+1+1≠n+1+1+1+1+1)/\(n+1+1+1+1+1≠n+1+1+1+1)/\(n+1+1+1+1<=n+1+1+1+1+1)/\(n+1+1+1+1<n+1+1+1+1+1+1)/\(n+1+1+1+1≠n+1+1+1+1+1+1)/\(n+1+1+1+1+1+1≠n+1+1+1+1)/\(n+1+1+1+1<=n+1+1+1+1+1+1)/\(n+1+1+1+1<n+1+1+1+1+1+1+1)/\(n+1+1+1+1≠n+1+1+1+1+1+1+1)/\(n+1+1+1+1+1+1+1≠n+1+1+1+1)/\(n+1+1+1+1<=n+1+1+1+1+1+1+1)/\(n+1+1+1+1+1<n+1+1+1+1+1+1)/\(n+1+1+1+1+1≠n+1+1+1+1+1+1)/\(n+1+1+1+1+1+1≠n+1+1+1+1+1)/\(n+1+1+1+1+1<=n+1+1+1+1+1+1)/\(n+1+1+1+1+1<n+1+1+1+1+1+1+1)/\(n+1+1+1+1+1≠n+1+1+1+1+1+1+1)/\(n+1+1+1+1+1+1+1≠n+1+1+1+1+1)/\(n+1+1+1+1+1<=n+1+1+1+1+1+1+1)/\(n+1+1+1+1+1+1<n+1+1+1+1+1+1+1)/\(n+1+1+1+1+1+1≠n+1+1+1+1+1+1+1)/\(n+1+1+1+1+1+1+1≠n+1+1+1+1+1+1)/\(n+1+1+1+1+1+1<=n+1+1+1+1+1+1+1):=by
 refine ⟨?_,?_,?_,?_,?_,?_,?_,?_,?_,?_,?_,?_,?_,?_,?_,?_,?_,?_,?_,?_,?_,?_,?_,?_,?_,?_,?_,?_,?_,?_,?_,?_,?_,?_,?_,?_,?_,?_,?_,?_,?_,?_,?_,?_,?_,?_,?_,?_,?_,?_,?_,?_,?_,?_,?_,?_,?_,?_,?_,?_,?_,?_,?_,?_,?_,?_,?_,?_,?_,?_,?_,?_,?_,?_,?_,?_,?_,?_,?_,?_,?_,?_,?_,?_,?_,?_,?_,?_,?_,?_,?_,?_,?_,?_,?_,?_,?_,?_,?_,?_,?_,?_,?_,?_,?_,?_,?_,?_,?_,?_,?_,?_⟩<;>omega
theorem uM {i n:Nat} (h:i<n):(i<n)/\(i≠n)/\(n≠i)/\(i<n+1)/\(i≠n+1)/\(n+1≠i)/\(i<n+1+1)/\(i≠n+1+1)/\(n+1+1≠i)/\(i<n+1+1+1)/\(i≠n+1+1+1)/\(n+1+1+1≠i)/\(i<n+1+1+1+1)/\(i≠n+1+1+1+1)/\(n+1+1+1+1≠i)/\(i<n+1+1+1+1+1)/\(i≠n+1+1+1+1+1)/\(n+1+1+1+1+1≠i)/\(i<n+1+1+1+1+1+1)/\(i≠n+1+1+1+1+1+1)/\(n+1+1+1+1+1+1≠i)/\(i<n+1+1+1+1+1+1+1)/\(i≠n+1+1+1+1+1+1+1)/\(n+1+1+1+1+1+1+1≠i):=by
 refine ⟨?_,?_,?_,?_,?_,?_,?_,?_,?_,?_,?_,?_,?_,?_,?_,?_,?_,?_,?_,?_,?_,?_,?_,?_⟩<;>omega
def ApY (s:Sto) (k:Nat) (a:AV) (xs:List AV):Prop:=a.isCell=true/\UnderE s.n a/\(∀ s',Sim s s'->BG s' k a=some (xs.length,(xs.map AV.cells).flatten))/\(xs.length=0->∀ s':Sto,(∀ id,id<s.n->s'.get id=s.get id)->BG s' k a=some (0,[]))
theorem ApY.sl {s:Sto} {k:Nat} {a:AV} {xs:List AV} (h:Sl a xs) (hu:UnderE 0 a) (hc:∀ x∈xs,x.cells.length=k/\x.cells.all AV.isCell=true):ApY s k a xs:=by
 have key:∀ s',BG s' k a=some (xs.length,(xs.map AV.cells).flatten):=fun s'=>by
  rcases h.1 with ⟨rfl,rfl⟩ | ⟨c,rfl⟩
  ·rfl
  ·rw [vV hc,<-List.flatMap_def]
 exact ⟨h.cell,hu.mono (Nat.zero_le _),fun s' _=>key s',fun h0 s' _=>by rw [key,h0,List.length_eq_zero_iff.1 h0];rfl⟩
theorem ApY.sim {s s':Sto} {k:Nat} {a:AV} {xs:List AV} (h:ApY s k a xs) (hs:Sim s s'):ApY s' k a xs:=⟨h.1,h.2.1.mono hs.1,fun s'' h'=>h.2.2.1 s'' (hs.trans h'),fun h0 s'' h'=>h.2.2.2 h0 s'' fun id hid=>(h' id (Nat.lt_of_lt_of_le hid hs.1)).trans (hs.2 id hid)⟩
def Old (n0:Nat) (o0:Tr AObj) (n:Nat) (o:Tr AObj):Prop:=n0<=n/\∀ id,id<n0->o.get id=o0.get id
theorem Old.sim {n0 low0 n low:Nat} {o0 o:Tr AObj} (h:Old n0 o0 n o):Sim ⟨n0,low0,o0⟩ ⟨n,low,o⟩:=⟨h.1,fun id hid=>by
 have hid':id<n0:=hid
 rw [Sto.get_mk (Nat.lt_of_lt_of_le hid' h.1),Sto.get_mk hid'];exact h.2 id hid'⟩
theorem aJd:(∀ {n0:Nat} {o0:Tr AObj},Old n0 o0 n0 o0)/\(∀ {n0 n:Nat} {o0 o:Tr AObj} {x:AObj},Old n0 o0 n o->Old n0 o0 (n+1) (o.set n x))/\(∀ {n0 n i:Nat} {o0 o:Tr AObj} {x:AObj},n0<=i->Old n0 o0 n o->Old n0 o0 n (o.set i x))/\
 (∀ {n:Nat},n<=n)/\(∀ {n m:Nat},n<=m->n<=m+1):=
 ⟨⟨Nat.le_refl _,fun _ _=>rfl⟩,fun {n0 n o0 o x} h=>⟨Nat.le_succ_of_le h.1,fun id hid=>by rw [Tr.get_set_ne _ _ (Nat.ne_of_lt (Nat.lt_of_lt_of_le hid h.1))];exact h.2 id hid⟩,
   fun {n0 n i o0 o x} hi h=>⟨h.1,fun id hid=>by rw [Tr.get_set_ne _ _ (Nat.ne_of_lt (Nat.lt_of_lt_of_le hid hi))];exact h.2 id hid⟩,Nat.le_refl _,fun h=>Nat.le_succ_of_le h⟩
theorem aSh {n0:Nat} {o0:Tr AObj}:(∀ {x y:AObj},Old n0 o0 (n0+1+1) ((o0.set n0 x).set (n0+1) y))/\(∀ {x y z:AObj},Old n0 o0 (n0+1+1+1) (((o0.set n0 x).set (n0+1) y).set (n0+1+1) z))/\
 (∀ {x y z u:AObj},Old n0 o0 (n0+1+1+1+1) ((((o0.set n0 x).set (n0+1) y).set (n0+1+1) z).set (n0+1+1+1) u))/\(∀ {x y z u v:AObj},Old n0 o0 (n0+1+1+1+1+1) (((((o0.set n0 x).set (n0+1) y).set (n0+1+1) z).set (n0+1+1+1) u).set (n0+1+1+1+1) v)):=by
 obtain ⟨h1,h2,_⟩:=aJd;exact ⟨h2 (h2 h1),h2 (h2 (h2 h1)),h2 (h2 (h2 (h2 h1))),h2 (h2 (h2 (h2 (h2 h1))))⟩
theorem ApY.old {n0 low0 n low:Nat} {o0 o:Tr AObj} {k:Nat} {a:AV} {xs:List AV} (h:ApY ⟨n0,low0,o0⟩ k a xs) (ho:Old n0 o0 n o):BG ⟨n,low,o⟩ k a=some (xs.length,(xs.map AV.cells).flatten):=h.2.2.1 _ ho.sim
end
end Go.Abs
namespace Go.Proofs.YtifmdaalhclhgaaGreat
open Go.Abs Go Go.Abs.TryzF
noncomputable section
set_option maxRecDepth 10000
theorem oB {T:AV->Prop} (h:Tu T) {xs:List AV} (hx:∀ x∈xs,T x):∀ x∈xs,x.cells.length=1/\x.cells.all AV.isCell=true:=fun x hm=>by
 rw [dO (h x (hx x hm)).2];exact ⟨rfl,by simp [(h x (hx x hm)).2]⟩
theorem fS {k:Nat} {T:AV->Prop} (h:Tk k T) {xs:List AV} (hx:∀ x∈xs,T x):∀ x∈xs,x.cells.length=k/\x.cells.all AV.isCell=true:=fun x hm=>by
 obtain ⟨_,cs,rfl,h1,h2⟩:=h x (hx x hm);exact ⟨h1,h2⟩
theorem zB {k:Nat} {xs:List AV} (hc:∀ x∈xs,x.cells.length=k/\x.cells.all AV.isCell=true):(xs.map AV.cells).flatten.all AV.isCell=true:=List.all_eq_true.2 fun y hy=>by
 obtain ⟨l,hl,hy⟩:=List.mem_flatten.1 hy;obtain ⟨x,hx,rfl⟩:=List.mem_map.1 hl;exact List.all_eq_true.1 (hc x hx).2 y hy
theorem CQ {k lo n:Nat} {o:Tr AObj} {xs:List AV} (h:xs.length=0):AccM k lo .nils n o (xs.map AV.cells):=.inl ⟨by simp [List.length_eq_zero_iff.1 h],rfl⟩
theorem CR {k lo n id:Nat} {o:Tr AObj} {xs:List AV} (h:xs.length≠0) (hg:o.get id=some (aY 0 (xs.map AV.cells).flatten)) (h1:id<n) (h2:lo<=id):AccM k lo (.sl id 0 0 xs.length (.room k)) n o (xs.map AV.cells):=.inr ⟨fun e=>h (by simpa using congrArg List.length e),id,0,by rw [List.length_map],hg,h1,h2⟩
theorem kI {n:Nat}:∀ {l:List AV},(∀ y∈l,UnderE 0 y)->eR n l
 | [],_=>trivial
 | y::l,h=>⟨(h y (List.mem_cons_self ..)).mono (Nat.zero_le _),kI fun z hz=>h z (List.mem_cons_of_mem _ hz)⟩
section
variable {os ts us is no ns fs mm cs os' ts' us' is' no' d g:AV}
end
end
end Go.Proofs.YtifmdaalhclhgaaGreat
