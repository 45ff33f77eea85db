/-
  Points: what is missing is put in.
-/
import Derived.Test.YtkocnhkbgcjpbaaGreatPm
import Derived.Test.YtkocnhkbgcjpbaaGreatPj
set_option linter.unusedVariables false
set_option linter.unusedSimpArgs false
namespace Go.Proofs.YtkocnhkbgcjpbaaGreat
open Go.Abs Go Go.Abs.TryzF
noncomputable section
set_option maxRecDepth 10000
theorem dT {l:List AV} (h:UnderE 0 (.agg l)):∀ y∈l,UnderE 0 y:=fun y hy=>by
 obtain ⟨d,hd⟩:=h
 cases d with
 | zero=>simp [AV.under]at hd
 | succ d=>exact ⟨d,List.all_eq_true.1 hd y hy⟩
theorem stn_frz {k lo hi n:Nat} {s:Sto} {a:AV} {xs:List AV} {T:AV->Prop} (h:StN lo hi s a xs) (hn:n<=lo) (hT:Tk k T) (hx:∀ x∈xs,T x) (hne:xs=[]->a=.nils):Frz s n a (bN xs):=by
 rcases h with ⟨rfl,rfl⟩ | ⟨id,g,c,rfl,hg,hlo,_⟩
 ·exact .und _ dX
 ·have hl:xs.length≠0:=fun h=>by
   have:=hne (List.length_eq_zero_iff.1 h);cases this
  unfold bN;rw [if_neg hl]
  have:=BS (S:=s) (n:=n) (cap:=c) (len:=xs.length) (Nat.le_trans hn hlo) hg (by rw [List.length_map]) (jU hT hx) (fun x hx' y hy=>by
   obtain ⟨z,hz,rfl⟩:=List.mem_map.1 hx';obtain ⟨hu,cs,rfl,_⟩:=hT z (hx z hz)
   exact ((dT hu y hy).mono (Nat.zero_le n)).und)
  rw [wW hT hx]at this;exact this
def iP (xd:List AV) (m:Nat):List Nat:=(List.range m).filter fun i=>!pG xd i
theorem BH {xd:List AV} {m:Nat}:mU xd m=(iP xd m).map fun i:Nat=>[.int .i64 (i:Nat)]:=rfl
theorem BI {xd:List AV} {m i:Nat}:i∈iP xd m↔i<m/\pG xd i=false:=by
 simp only [iP,List.mem_filter,List.mem_range,Bool.not_eq_true']
def iQ (xo:List AV):List AV->List Nat->List AV
 | l,[]=>l
 | l,i::ks=>iQ xo (l.set i (cD (xo.getD i .top))) ks
theorem jT {xo:List AV}:∀ (ks:List Nat) (l:List AV),(iQ xo l ks).length=l.length
 | [],l=>rfl
 | i::ks,l=>by rw [iQ,jT ks,List.length_set]
theorem yV {xo:List AV} {i:Nat}:∀ (ks:List Nat) (l:List AV),iQ xo l (ks++[i])=(iQ xo l ks).set i (cD (xo.getD i .top))
 | [],l=>rfl
 | k::ks,l=>by rw [List.cons_append,iQ,iQ,yV ks]
theorem LC {xo:List AV} {i:Nat}:∀ (ks:List Nat) (l:List AV),i<l.length->(iQ xo l ks)[i]?=if i∈ks then some (cD (xo.getD i .top)) else l[i]?
 | [],l,_=>by simp [iQ]
 | k::ks,l,h=>by
   rw [iQ,LC ks _ (by rw [List.length_set];exact h)];by_cases h1:i∈ks
   ·simp [h1]
   ·by_cases h2:k=i
    ·subst h2;simp [h1,h]
    ·have:¬ i=k:=fun e=>h2 e.symm
     simp [h1,h2,this]
theorem wM {xo:List AV} {T:AV->Prop}:∀ (ks:List Nat) (l:List AV),(∀ x∈l,T x)->(∀ i∈ks,T (cD (xo.getD i .top)))->∀ x∈iQ xo l ks,T x
 | [],l,h,_=>h
 | k::ks,l,h,h'=>by
   rw [iQ]
   refine wM ks _ (fun x hx=>?_) fun i hi=>h' i (List.mem_cons_of_mem _ hi)
   rcases List.mem_or_eq_of_mem_set hx with hx | rfl
   ·exact h x hx
   ·exact h' k (List.mem_cons_self ..)
def mT (xo xo' xd:List AV):List AV:=(List.range xo'.length).map fun i=>if pG xd i=true then cD (xo'.getD i .top) else cD (xo.getD i .top)
theorem CN {xo xo' xd:List AV} (h:xd.length=xo'.length):iQ xo (xo'.map cD) (iP xd xd.length)=mT xo xo' xd:=by
 refine List.ext_getElem? fun i=>?_
 by_cases hi:i<xo'.length
 ·rw [LC _ _ (by rw [List.length_map];exact hi),mT,List.getElem?_map,List.getElem?_map,List.getElem?_range hi,List.getElem?_eq_getElem hi]
  simp only [Option.map_some,BI]
  cases hb:pG xd i with
  | true=>simp [hi]
  | false=>simp [h,hi]
 ·rw [List.getElem?_eq_none (by rw [jT,List.length_map];omega),List.getElem?_eq_none (by simp [mT];omega)]
theorem CO {xo xo' xd:List AV}:(mT xo xo' xd).length=xo'.length:=by simp [mT]
def aBi (xs:List AV) (args:List AV) (s:Sto) (res:CRes):Prop:=∃ os ts us is no S vo,args=[wg os ts us is no]/\res=.ret (.agg [vo,aJ ts,aJ us,aJ is,no]) (some S)/\bG Tryz.prog 55 args s res/\Nat.min s.low s.n<=S.low/\Sim s S/\AccM 4 s.n vo S.n S.o ((xs.map cD).map AV.cells)
theorem LD {os ts us is no:AV} {xs:List AV} {lo hi:Nat} (h1:∀ x∈xs,nG x) (s1:xs.length<=1000) (s2:∀ o∈xs,yP o) (h2:dU ts) (h3:TSl nH us) (h4:dU is) (h5:cS no) (s3:ts.els.length<=1000) (s4:us.els.length<=1000) (s5:is.els.length<=1000) (s:Sto) (hos:StN lo hi s os xs):∃ res,aBi xs [wg os ts us is no] s res:=by
 obtain ⟨S,v,⟨k1,k2,vo,rfl,k3⟩,k4⟩:=WN s hos h1 s1 s2 h2 h3 h4 h5 s3 s4 s5;refine ⟨_,os,ts,us,is,no,_,vo,rfl,rfl,k4,?_,⟨k2.1,fun id hid=>k2.2 id hid⟩,k3⟩;exact Nat.le_min.2 ⟨Nat.min_le_left _ _,Nat.le_trans (Nat.min_le_right _ _) k1⟩
def TY (id:Nat) (args:List AV) (s:Sto) (res:CRes):Prop:=∃ S,args=[.ptr id 0 0]/\res=.ret (LG s.n) (some S)/\bG Tryz.prog 30 args s res/\S.n=s.n+1/\Nat.min s.low s.n<=S.low/\Sim s S/\S.get s.n=some (aS 0 [.ptr id 0 0])
theorem CP (id:Nat) (s:Sto):∃ res,TY id [.ptr id 0 0] s res:=by
 obtain ⟨S,v,⟨rfl,k1,k2,k3,k4⟩,k5⟩:=LH id s;refine ⟨_,_,rfl,rfl,k5,k1,?_,⟨k3.1,fun id hid=>k3.2 id hid⟩,k4⟩;exact Nat.le_min.2 ⟨Nat.min_le_left _ _,Nat.le_trans (Nat.min_le_right _ _) k2⟩
end
end Go.Proofs.YtkocnhkbgcjpbaaGreat
/-
 The reference of worlds: copies.
-/
namespace Go.Abs
noncomputable section
theorem wC {n:Nat}:(n<n+1)/\(n≠n+1)/\(n+1≠n)/\(n<=n+1)/\(n<n+1+1)/\(n≠n+1+1)/\(n+1+1≠n)/\(n<=n+1+1)/\(n<n+1+1+1)/\(n≠n+1+1+1)/\(n+1+1+1≠n)/\(n<=n+1+1+1)/\(n<n+1+1+1+1)/\(n≠n+1+1+1+1)/\(n+1+1+1+1≠n)/\(n<=n+1+1+1+1)/\(n<n+1+1+1+1+1)/\(n≠n+1+1+1+1+1)/\(n+1+1+1+1+1≠n)/\(n<=n+1+1+1+1+1)/\(n<n+1+1+1+1+1+1)/\(n≠n+1+1+1+1+1+1)/\(n+1+1+1+1+1+1≠n)/\(n<=n+1+1+1+1+1+1)/\(n<n+1+1+1+1+1+1+1)/\(n≠n+1+1+1+1+1+1+1)/\(n+1+1+1+1+1+1+1≠n)/\(n<=n+1+1+1+1+1+1+1)/\(n+1<n+1+1)/\(n+1≠n+1+1)/\(n+1+1≠n+1)/\(n+1<=n+1+1)/\(n+1<n+1+1+1)/\(n+1≠n+1+1+1)/\(n+1+1+1≠n+1)/\(n+1<=n+1+1+1)/\(n+1<n+1+1+1+1)/\(n+1≠n+1+1+1+1)/\(n+1+1+1+1≠n+1)/\(n+1<=n+1+1+1+1)/\(n+1<n+1+1+1+1+1)/\(n+1≠n+1+1+1+1+1)/\(n+1+1+1+1+1≠n+1)/\(n+1<=n+1+1+1+1+1)/\(n+1<n+1+1+1+1+1+1)/\(n+1≠n+1+1+1+1+1+1)/\(n+1+1+1+1+1+1≠n+1)/\(n+1<=n+1+1+1+1+1+1)/\(n+1<n+1+1+1+1+1+1+1)/\(n+1≠n+1+1+1+1+1+1+1)/\(n+1+1+1+1+1+1+1≠n+1)/\(n+1<=n+1+1+1+1+1+1+1)/\(n+1+1<n+1+1+1)/\(n+1+1≠n+1+1+1)/\(n+1+1+1≠n+1+1)/\(n+1+1<=n+1+1+1)/\(n+1+1<n+1+1+1+1)/\(n+1+1≠n+1+1+1+1)/\(n+1+1+1+1≠n+1+1)/\(n+1+1<=n+1+1+1+1)/\(n+1+1<n+1+1+1+1+1)/\(n+1+1≠n+1+1+1+1+1)/\(n+1+1+1+1+1≠n+1+1)/\(n+1+1<=n+1+1+1+1+1)/\(n+1+1<n+1+1+1+1+1+1)/\(n+1+1≠n+1+1+1+1+1+1)/\(n+1+1+1+1+1+1≠n+1+1)/\(n+1+1<=n+1+1+1+1+1+1)/\(n+1+1<n+1+1+1+1+1+1+1)/\(n+1+1≠n+1+1+1+1+1+1+1)/\(n+1+1+1+1+1+1+1≠n+1+1)/\(n+1+1<=n+1+1+1+1+1+1+1)/\(n+1+1+1<n+1+1+1+1)/\(n+1+1+1≠n+1+1+1+1)/\(n+1+1+1+1≠n+1+1+1)/\(n+1+1+1<=n+1+1+1+1)/\(n+1+1+1<n+1+1+1+1+1)/\(n+1+1+1≠n+1+1+1+1+1)/\(n+1+1+1+1+1≠n+1+1+1)/\(n+1+1+1<=n+1+1+1+1+1)/\(n+1+1+1<n+1+1+1+1+1+1)/\(n+1+1+1≠n+1+1+1+1+1+1)/\(n+1+1+1+1+1+1≠n+1+1+1)/\(n+1+1+1<=n+1+1+1+1+1+1)/\(n+1+1+1<n+1+1+1+1+1+1+1)/\(n+1+1+1≠n+1+1+1+1+1+1+1)/\(n+1+1+1+1+1+1+1≠n+1+1+1)/\(n+1+1+1<=n+1+1+1+1+1+1+1)/\(n+1+1+1+1<n+1+1+1+1+1)/\(n+1+1+1+1≠n+1+1+1+1+1)/\(n+1+1+1+1+1≠n+1+1+1+1)/\(n+1+1+1+1<=n+1+1+1+1+1)/\(n+1+1+1+1<n+1+1+1+1+1+1)/\(n+1+1+1+1≠n+1+1+1+1+1+1)/\(n+1+1+1+1+1+1≠n+1+1+1+1)/\(n+1+1+1+1<=n+1+1+1+1+1+1)/\(n+1+1+1+1<n+1+1+1+1+1+1+1)/\(n+1+1+1+1≠n+1+1+1+1+1+1+1)/\(n+1+1+1+1+1+1+1≠n+1+1+1+1)/\(n+1+1+1+1<=n+1+1+1+1+1+1+1)/\(n+1+1+1+1+1<n+1+1+1+1+1+1)/\(n+1+1+1+1+1≠n+1+1+1+1+1+1)/\(n+1+1+1+1+1+1≠n+1+1+1+1+1)/\(n+1+1+1+1+1<=n+1+1+1+1+1+1)/\(n+1+1+1+1+1<n+1+1+1+1+1+1+1)/\(n+1+1+1+1+1≠n+1+1+1+1+1+1+1)/\(n+1+1+1+1+1+1+1≠n+1+1+1+1+1)/\(n+1+1+1+1+1<=n+1+1+1+1+1+1+1)/\(n+1+1+1+1+1+1<n+1+1+1+1+1+1+1)/\(n+1+1+1+1+1+1≠n+1+1+1+1+1+1+1)/\(n+1+1+1+1+1+1+1≠n+1+1+1+1+1+1)/\(n+1+1+1+1+1+1<=n+1+1+1+1+1+1+1):=by
 refine ⟨?_,?_,?_,?_,?_,?_,?_,?_,?_,?_,?_,?_,?_,?_,?_,?_,?_,?_,?_,?_,?_,?_,?_,?_,?_,?_,?_,?_,?_,?_,?_,?_,?_,?_,?_,?_,?_,?_,?_,?_,?_,?_,?_,?_,?_,?_,?_,?_,?_,?_,?_,?_,?_,?_,?_,?_,?_,?_,?_,?_,?_,?_,?_,?_,?_,?_,?_,?_,?_,?_,?_,?_,?_,?_,?_,?_,?_,?_,?_,?_,?_,?_,?_,?_,?_,?_,?_,?_,?_,?_,?_,?_,?_,?_,?_,?_,?_,?_,?_,?_,?_,?_,?_,?_,?_,?_,?_,?_,?_,?_,?_,?_⟩<;>omega
theorem mM {i n:Nat} (h:i<n):(i<n)/\(i≠n)/\(n≠i)/\(i<n+1)/\(i≠n+1)/\(n+1≠i)/\(i<n+1+1)/\(i≠n+1+1)/\(n+1+1≠i)/\(i<n+1+1+1)/\(i≠n+1+1+1)/\(n+1+1+1≠i)/\(i<n+1+1+1+1)/\(i≠n+1+1+1+1)/\(n+1+1+1+1≠i)/\(i<n+1+1+1+1+1)/\(i≠n+1+1+1+1+1)/\(n+1+1+1+1+1≠i)/\(i<n+1+1+1+1+1+1)/\(i≠n+1+1+1+1+1+1)/\(n+1+1+1+1+1+1≠i)/\(i<n+1+1+1+1+1+1+1)/\(i≠n+1+1+1+1+1+1+1)/\(n+1+1+1+1+1+1+1≠i):=by
 refine ⟨?_,?_,?_,?_,?_,?_,?_,?_,?_,?_,?_,?_,?_,?_,?_,?_,?_,?_,?_,?_,?_,?_,?_,?_⟩<;>omega
def ApY (s:Sto) (k:Nat) (a:AV) (xs:List AV):Prop:=a.isCell=true/\UnderE s.n a/\(∀ s',Sim s s'->AY s' k a=some (xs.length,(xs.map AV.cells).flatten))/\(xs.length=0->∀ s':Sto,(∀ id,id<s.n->s'.get id=s.get id)->AY s' k a=some (0,[]))
theorem ApY.sl {s:Sto} {k:Nat} {a:AV} {xs:List AV} (h:Sl a xs) (hu:UnderE 0 a) (hc:∀ x∈xs,x.cells.length=k/\x.cells.all AV.isCell=true):ApY s k a xs:=by
 have key:∀ s',AY s' k a=some (xs.length,(xs.map AV.cells).flatten):=fun s'=>by
  rcases h.1 with ⟨rfl,rfl⟩ | ⟨c,rfl⟩
  ·rfl
  ·rw [JC hc,<-List.flatMap_def]
 exact ⟨h.cell,hu.mono (Nat.zero_le _),fun s' _=>key s',fun h0 s' _=>by rw [key,h0,List.length_eq_zero_iff.1 h0];rfl⟩
theorem ApY.stn {lo hi:Nat} {s:Sto} {k:Nat} {a:AV} {xs:List AV} (h:StN lo hi s a xs) (hc:∀ x∈xs,x.cells.length=k/\x.cells.all AV.isCell=true):ApY s k a xs:=by
 have key:∀ s':Sto,(∀ id,id<s.n->s'.get id=s.get id)->AY s' k a=some (xs.length,(xs.map AV.cells).flatten):=fun s' hs=>by
  rcases h with ⟨rfl,rfl⟩ | ⟨id,g,c,rfl,hg,_⟩
  ·rfl
  ·have hl:(xs.map AV.cells).flatten.length=xs.length*k:=by
    have:=fN (k:=k) (xs.map AV.cells) fun x hx=>by obtain ⟨y,hy,rfl⟩:=List.mem_map.1 hx;exact (hc y hy).1
    rw [this,List.length_map]
   have hall:(xs.map AV.cells).flatten.all AV.isCell=true:=List.all_eq_true.2 fun y hy=>by
    obtain ⟨l,hl,hy⟩:=List.mem_flatten.1 hy;obtain ⟨x,hx,rfl⟩:=List.mem_map.1 hl;exact List.all_eq_true.1 (hc x hx).2 y hy
   have e:aW (xs.map AV.cells).flatten 0 (xs.length*k)=(xs.map AV.cells).flatten:=vU hl.symm;rw [aEh,hs id (Sto.get_lt hg),hg,VF (by omega) (by rw [e];exact hall),e]
 exact ⟨h.cell,h.under,fun s' hs=>key s' hs.2,fun h0 s' hs=>by rw [key s' hs,h0,List.length_eq_zero_iff.1 h0];rfl⟩
theorem ApY.sim {s s':Sto} {k:Nat} {a:AV} {xs:List AV} (h:ApY s k a xs) (hs:Sim s s'):ApY s' k a xs:=⟨h.1,h.2.1.mono hs.1,fun s'' h'=>h.2.2.1 s'' (hs.trans h'),fun h0 s'' h'=>h.2.2.2 h0 s'' fun id hid=>(h' id (Nat.lt_of_lt_of_le hid hs.1)).trans (hs.2 id hid)⟩
def Old (n0:Nat) (o0:Tr AObj) (n:Nat) (o:Tr AObj):Prop:=n0<=n/\∀ id,id<n0->o.get id=o0.get id
theorem Old.sim {n0 low0 n low:Nat} {o0 o:Tr AObj} (h:Old n0 o0 n o):Sim ⟨n0,low0,o0⟩ ⟨n,low,o⟩:=⟨h.1,fun id hid=>by
 have hid':id<n0:=hid
 rw [Sto.get_mk (Nat.lt_of_lt_of_le hid' h.1),Sto.get_mk hid'];exact h.2 id hid'⟩
theorem WI:(∀ {n0:Nat} {o0:Tr AObj},Old n0 o0 n0 o0)/\(∀ {n0 n:Nat} {o0 o:Tr AObj} {x:AObj},Old n0 o0 n o->Old n0 o0 (n+1) (o.set n x))/\(∀ {n0 n i:Nat} {o0 o:Tr AObj} {x:AObj},n0<=i->Old n0 o0 n o->Old n0 o0 n (o.set i x))/\
 (∀ {n:Nat},n<=n)/\(∀ {n m:Nat},n<=m->n<=m+1):=
 ⟨⟨Nat.le_refl _,fun _ _=>rfl⟩,fun {n0 n o0 o x} h=>⟨Nat.le_succ_of_le h.1,fun id hid=>by rw [Tr.get_set_ne _ _ (Nat.ne_of_lt (Nat.lt_of_lt_of_le hid h.1))];exact h.2 id hid⟩,
   fun {n0 n i o0 o x} hi h=>⟨h.1,fun id hid=>by rw [Tr.get_set_ne _ _ (Nat.ne_of_lt (Nat.lt_of_lt_of_le hid hi))];exact h.2 id hid⟩,Nat.le_refl _,fun h=>Nat.le_succ_of_le h⟩
theorem aKp {n0:Nat} {o0:Tr AObj}:(∀ {x y:AObj},Old n0 o0 (n0+1+1) ((o0.set n0 x).set (n0+1) y))/\(∀ {x y z:AObj},Old n0 o0 (n0+1+1+1) (((o0.set n0 x).set (n0+1) y).set (n0+1+1) z))/\
 (∀ {x y z u:AObj},Old n0 o0 (n0+1+1+1+1) ((((o0.set n0 x).set (n0+1) y).set (n0+1+1) z).set (n0+1+1+1) u))/\(∀ {x y z u v:AObj},Old n0 o0 (n0+1+1+1+1+1) (((((o0.set n0 x).set (n0+1) y).set (n0+1+1) z).set (n0+1+1+1) u).set (n0+1+1+1+1) v)):=by
 obtain ⟨h1,h2,_⟩:=WI;exact ⟨h2 (h2 h1),h2 (h2 (h2 h1)),h2 (h2 (h2 (h2 h1))),h2 (h2 (h2 (h2 (h2 h1))))⟩
theorem ApY.old {n0 low0 n low:Nat} {o0 o:Tr AObj} {k:Nat} {a:AV} {xs:List AV} (h:ApY ⟨n0,low0,o0⟩ k a xs) (ho:Old n0 o0 n o):AY ⟨n,low,o⟩ k a=some (xs.length,(xs.map AV.cells).flatten):=h.2.2.1 _ ho.sim
end
end Go.Abs
namespace Go.Proofs.YtkocnhkbgcjpbaaGreat
open Go.Abs Go Go.Abs.TryzF
noncomputable section
set_option maxRecDepth 10000
theorem qG {T:AV->Prop} (h:Tu T) {xs:List AV} (hx:∀ x∈xs,T x):∀ x∈xs,x.cells.length=1/\x.cells.all AV.isCell=true:=fun x hm=>by
 rw [dV (h x (hx x hm)).2];exact ⟨rfl,by simp [(h x (hx x hm)).2]⟩
theorem sH {k:Nat} {T:AV->Prop} (h:Tk k T) {xs:List AV} (hx:∀ x∈xs,T x):∀ x∈xs,x.cells.length=k/\x.cells.all AV.isCell=true:=fun x hm=>by
 obtain ⟨_,cs,rfl,h1,h2⟩:=h x (hx x hm);exact ⟨h1,h2⟩
theorem jJ {k:Nat} {xs:List AV} (hc:∀ x∈xs,x.cells.length=k/\x.cells.all AV.isCell=true):(xs.map AV.cells).flatten.all AV.isCell=true:=List.all_eq_true.2 fun y hy=>by
 obtain ⟨l,hl,hy⟩:=List.mem_flatten.1 hy;obtain ⟨x,hx,rfl⟩:=List.mem_map.1 hl;exact List.all_eq_true.1 (hc x hx).2 y hy
def aPg (xo xt xu xi:List AV) (no:AV) (s S:Sto) (v:AV):Prop:=s.n<=S.low/\Sim s S/\∃ a b c d,v=.agg [a,b,c,d,no]/\AccM 4 s.n a S.n S.o (xo.map AV.cells)/\AccM 1 s.n b S.n S.o (xt.map AV.cells)/\AccM 2 s.n c S.n S.o (xu.map AV.cells)/\AccM 1 s.n d S.n S.o (xi.map AV.cells)
theorem wO {k lo n:Nat} {o:Tr AObj} {xs:List AV} (h:xs.length=0):AccM k lo .nils n o (xs.map AV.cells):=.inl ⟨by simp [List.length_eq_zero_iff.1 h],rfl⟩
theorem wR {k lo n id:Nat} {o:Tr AObj} {xs:List AV} (h:xs.length≠0) (hg:o.get id=some (aS 0 (xs.map AV.cells).flatten)) (h1:id<n) (h2:lo<=id):AccM k lo (.sl id 0 0 xs.length (.room k)) n o (xs.map AV.cells):=.inr ⟨fun e=>h (by simpa using congrArg List.length e),id,0,by rw [List.length_map],hg,h1,h2⟩
set_option maxHeartbeats 16000000 in
theorem FW {os ts us is no:AV} {xo xt xu xi:List AV} (s:Sto) (ho:ApY s 4 os xo) (ht:ApY s 1 ts xt) (hu:ApY s 2 us xu) (hi:ApY s 1 is xi) (hn:cS no) (lo:xo.length<=1000) (lt:xt.length<=1000) (lu:xu.length<=1000) (li:xi.length<=1000)
 (co:(xo.map AV.cells).flatten.all AV.isCell=true) (ct:(xt.map AV.cells).flatten.all AV.isCell=true) (cu:(xu.map AV.cells).flatten.all AV.isCell=true) (ci:(xi.map AV.cells).flatten.all AV.isCell=true):
 ∃ S v,aPg xo xt xu xi no s S v/\bG Tryz.prog 43 [wg os ts us is no] s (.ret v (some {S with low:=Nat.min s.low S.low})):=by
 unfold aPg;obtain ⟨n0,low0,o0⟩:=s;refine gW (L:=[]) aE (fun _=>([],[1000,cQ (n0+1),15])) (by kernel_rfl) Tryz.func43 Tryz.ntmps43 Tryz.results43 rfl rfl ?_
 have a1:=fun {n low:Nat} {o:Tr AObj} (h:Old n0 o0 n o)=>ho.old (low:=low) h
 have a2:=fun {n low:Nat} {o:Tr AObj} (h:Old n0 o0 n o)=>ht.old (low:=low) h
 have a3:=fun {n low:Nat} {o:Tr AObj} (h:Old n0 o0 n o)=>hu.old (low:=low) h
 have a4:=fun {n low:Nat} {o:Tr AObj} (h:Old n0 o0 n o)=>hi.old (low:=low) h
 have c1:=ho.1;have c2:=ht.1;have c3:=hu.1;have c4:=hi.1;have u1:UnderE n0 os:=ho.2.1
 have v1:UnderE (n0+1+1) os/\UnderE (n0+1+1+1) os/\UnderE (n0+1+1+1+1) os/\UnderE (n0+1+1+1+1+1) os:=⟨u1.mono (by omega),u1.mono (by omega),u1.mono (by omega),u1.mono (by omega)⟩
 have u2:UnderE n0 ts:=ht.2.1
 have v2:UnderE (n0+1+1) ts/\UnderE (n0+1+1+1) ts/\UnderE (n0+1+1+1+1) ts/\UnderE (n0+1+1+1+1+1) ts:=⟨u2.mono (by omega),u2.mono (by omega),u2.mono (by omega),u2.mono (by omega)⟩
 have u3:UnderE n0 us:=hu.2.1
 have v3:UnderE (n0+1+1) us/\UnderE (n0+1+1+1) us/\UnderE (n0+1+1+1+1) us/\UnderE (n0+1+1+1+1+1) us:=⟨u3.mono (by omega),u3.mono (by omega),u3.mono (by omega),u3.mono (by omega)⟩
 have u4:UnderE n0 is:=hi.2.1
 have v4:UnderE (n0+1+1) is/\UnderE (n0+1+1+1) is/\UnderE (n0+1+1+1+1) is/\UnderE (n0+1+1+1+1+1) is:=⟨u4.mono (by omega),u4.mono (by omega),u4.mono (by omega),u4.mono (by omega)⟩
 have z1:=ho.2.2.2;have z2:=ht.2.2.2;have z3:=hu.2.2.2;have z4:=hi.2.2.2;clear ho ht hu hi;have c5:=(tu_int _ hn).2
 have u5:=fun {m:Nat}=>(tu_int _ hn).1.mono (Nat.zero_le m)
 unfold wg
 have lb:((2*xo.length+1024)*64<=281474976710656/\xo.length<4611686018427387904)/\((2*xt.length+1024)*8<=281474976710656/\xt.length<4611686018427387904)/\((2*xu.length+1024)*16<=281474976710656/\xu.length<4611686018427387904)/\((2*xi.length+1024)*8<=281474976710656/\xi.length<4611686018427387904):=by omega
 have hold:∀ {n low:Nat} {o:Tr AObj},Old n0 o0 n o->Sim ⟨n0,low0,o0⟩ ⟨n,low,o⟩:=fun h=>h.sim
 by_cases e1:xo.length=0<;>by_cases e2:xt.length=0<;>by_cases e3:xu.length=0<;>by_cases e4:xi.length=0
 all_goals
  simp +contextual +decide (maxSteps:=1000000) only [↓ wP,wQ,tf,Nat.reduceAdd,wS,c1,c2,c3,c4,c5,u5,v1,v2,v3,v4,aKp,a1,a2,a3,a4,co,ct,cu,ci,lb,pH,wV,jD,wC,YD,e1,e2,e3,e4,bA,Option.bind_some]
  repeat (refine ⟨fun s' hs'=>(by
   have hz:∀ id,id<n0->s'.get id=(Sto.mk n0 low0 o0).get id:=fun id hid=>by
    rw [hs' id (by omega),Sto.get_mk hid]
    first | rw [Sto.get_mk (by omega)] | skip
    repeat rw [Tr.get_set_ne _ _ (by omega)]
   first | (rw [z1 e1 s' hz];rfl) | (rw [z2 e2 s' hz];rfl) | (rw [z3 e3 s' hz];rfl) | (rw [z4 e4 s' hz];rfl)),?_⟩)
  refine ⟨Nat.le_min.2 ⟨by omega,Nat.le_refl _⟩,hold ?_,_,_,_,_,rfl,?_,?_,?_,?_⟩
  ·repeat (first | exact WI.1 | refine WI.2.1 ?_ | refine WI.2.2.1 (by omega) ?_)
  ·first | exact wO e1 | exact wR e1 (by simp +decide only [↓ aB,bE,ne_eq,wC]) (by omega) (by omega)
  ·first | exact wO e2 | exact wR e2 (by simp +decide only [↓ aB,bE,ne_eq,wC]) (by omega) (by omega)
  ·first | exact wO e3 | exact wR e3 (by simp +decide only [↓ aB,bE,ne_eq,wC]) (by omega) (by omega)
  ·first | exact wO e4 | exact wR e4 (by simp +decide only [↓ aB,bE,ne_eq,wC]) (by omega) (by omega)
theorem qH {n:Nat}:∀ {l:List AV},(∀ y∈l,UnderE 0 y)->gI n l
 | [],_=>trivial
 | y::l,h=>⟨(h y (List.mem_cons_self ..)).mono (Nat.zero_le _),qH fun z hz=>h z (List.mem_cons_of_mem _ hz)⟩
section
variable {os ts us is no ns fs mm cs os' ts' us' is' no' d g:AV}
abbrev oQ (id:Nat) (xs:List AV):List kS:=[jG 55 (aBi xs),jG 30 (TY id),ent 67 jV]
theorem WJ {id:Nat} {xs:List AV}:∀ x∈oQ id xs,cH Tryz.prog x:=elist_cons (eS fun _ _ _ h=>by obtain ⟨_,_,_,_,_,_,_,_,_,h,_⟩:=h;exact h) (elist_cons (eS fun _ _ _ h=>by obtain ⟨_,_,_,h,_⟩:=h;exact h) (elist_cons copied_ok.ent aE))
def aBj (xo xo' xd:List AV) (ts' us' is' no':AV):AV:=.agg [bN (mT xo xo' xd),aJ ts',aJ us',aJ is',no']
set_option maxHeartbeats 8000000 in
theorem LE {xo xo' xd:List AV} {lw hw' lo hi lo' hi':Nat} {s:Sto} (ho:StN lw hw' s os xo) (hot:∀ x∈xo,nG x) (hos:∀ x∈xo,yP x) (ho':StN lo hi s os' xo') (hot':∀ x∈xo',nG x) (hos':∀ x∈xo',yP x) (hd:StN lo' hi' s d xd) (hdt:∀ x∈xd,oD x) (hdl:xd.length=xo'.length) (hol:xo'.length<=xo.length) (hlen:xo.length<=1000)
 (h2:dU ts') (h3:TSl nH us') (h4:dU is') (h5:cS no') (s3:ts'.els.length<=1000) (s4:us'.els.length<=1000) (s5:is'.els.length<=1000) {id:Nat} (hs:s.get id=some (aS 0 (oR os ts us is no ns fs mm cs os' ts' us' is' no' d g))):
 ∃ low,bG Tryz.prog 44 [.ptr id 0 0] s (.ret (aBj xo xo' xd ts' us' is' no') (some ⟨s.n,low,s.o⟩)):=by
 refine WL (L:=oQ id xo') WJ (fun r=>(bif Nat.beq r 4 then [11] else [],[])) (by kernel_rfl) Tryz.func44 Tryz.ntmps44 Tryz.results44 rfl rfl ?_;have hlt:=Sto.get_lt hs;have c1:=ho'.cell;have c2:=(aM _ h2).2;have c3:=(cJ _ h3).2;have c4:=(aM _ h4).2;have c5:=(tu_int _ h5).2;have k2:=(aM _ (bF h2)).2;have k3:=(cJ _ (bF h3)).2;have k4:=(aM _ (bF h4)).2;obtain ⟨n0,low0,o0⟩:=s;have hlt':id<n0:=hlt
 have g0:o0.get id=some (aS 0 (oR os ts us is no ns fs mm cs os' ts' us' is' no' d g)):=by rw [Sto.get_mk hlt']at hs;exact hs
 have f0:=dC hlt';have g0':=g0;unfold oR at g0
 have hos2:∀ low x y,StN lo hi ⟨n0+1+1,low,(o0.set n0 x).set (n0+1) y⟩ os' xo':=fun low x y=>ho'.keep fun id hid _ _=>by
  have hid':id<n0:=hid;rw [Sto.get_mk (show id<n0+1+1 by omega),Sto.get_mk hid',Tr.get_set_ne _ _ (by omega),Tr.get_set_ne _ _ (by omega)]
 have hl9:aW [os,ts,us,is,no,ns,fs,mm,cs,os',ts',us',is',no',d,g] 9 5=[os',ts',us',is',no']:=rfl;simp +contextual +decide (maxSteps:=1000000) only [↓ wP,wQ,tf,Nat.reduceAdd,wS,g0,f0,jR,hl9];obtain ⟨_,⟨_,_,_,_,_,⟨n1,low1,o1⟩,vo,ea,rfl,_,hl,hs1,hacc⟩,he⟩:=sI (f:=55) (L:=[jG 30 (TY id),ent 67 jV]) (LD hot' (show xo'.length<=1000 by omega) hos' h2 h3 h4 h5 s3 s4 s5 _ (hos2 n0 (aS 0 [.ptr id 0 0]) (aS 0 [.nils,.nils,.nils,.nils,.int .i64 0])));have he':aV (oQ id xo') 55 [.agg [os',ts',us',is',no']] _=_:=he;cases ea;rw [he'];clear he he';have hcv:vo.isCell=true:=(StN.acc (low:=low1) hacc).cell;obtain ⟨hn1,hsame⟩:=hs1;have hn1':n0+1+1<=n1:=hn1
 have hold:∀ i,i<n0->o1.get i=o0.get i:=fun i hi=>by
  have:=hsame i (show i<n0+1+1 by omega);rw [Sto.get_mk (show i<n1 by omega),Sto.get_mk (show i<n0+1+1 by omega),Tr.get_set_ne _ _ (by omega),Tr.get_set_ne _ _ (by omega)]at this;exact this
 have gg0:o1.get n0=some (aS 0 [.ptr id 0 0]):=by
  have:=hsame n0 (show n0<n0+1+1 by omega);rw [Sto.get_mk (show n0<n1 by omega),Sto.get_mk (show n0<n0+1+1 by omega)]at this
  rw [this];exact by simp +decide only [↓ aB,bE,ne_eq,jR]
 have gg1:o1.get (n0+1)=some (aS 0 [.nils,.nils,.nils,.nils,.int .i64 0]):=by
  have:=hsame (n0+1) (show n0+1<n0+1+1 by omega);rw [Sto.get_mk (show n0+1<n1 by omega),Sto.get_mk (show n0+1<n0+1+1 by omega)]at this
  rw [this];exact by simp +decide only [↓ aB]
 have gid:o1.get id=some (aS 0 [os,ts,us,is,no,ns,fs,mm,cs,os',ts',us',is',no',d,g]):=(hold id hlt').trans g0;have fA:=mM (show n0<n1 by omega);have fB:=mM (show n0+1<n1 by omega);have fC:=mM (show id<n1 by omega);clear hsame g0 f0;obtain ⟨_,⟨⟨n2,low2,o2⟩,_,rfl,_,hn2,hl2,hs2,hbx⟩,hm⟩:=sI (f:=30) (L:=[ent 67 jV]) (CP id ⟨n1+1,Nat.min n1 low1,(o1.set n1 (aS 0 [.nils,.nils,.nils,.nils,.int .i64 0])).set n1 (aS 0 [vo,aJ ts',aJ us',aJ is',no'])⟩)
 have hm':aV (oQ id xo') 30 [.ptr id 0 0] ⟨n1+1,Nat.min n1 low1,(o1.set n1 (aS 0 [.nils,.nils,.nils,.nils,.int .i64 0])).set n1 (aS 0 [vo,aJ ts',aJ us',aJ is',no'])⟩=some (.ret (LG (n1+1)) (some ⟨n2,low2,o2⟩)):=by
  rw [oQ,bL (by decide)];exact hm
 clear hm
 have h66:∀ a σ,aV (oQ id xo') 66 a σ=none:=fun a σ=>by
  unfold oQ;rw [bL (by decide),bL (by decide)];rfl
 have h67:∀ x S,nG x->yP x->aV (oQ id xo') 67 [x] S=some (.ret (cD x) none):=fun x S hx hy=>by
  have:jV [x]=some (cD x):=bT ⟨hx,hy⟩;unfold oQ;rw [bL (by decide),bL (by decide)];simp [aV,ent,this]<;>rfl
 generalize hLL:oQ id xo'=LL at *;simp +contextual +decide (maxSteps:=1000000) only [↓ wP,wQ,tf,Nat.reduceAdd,wS,gg0,fA,jR,hcv,k2,k3,k4,c5,hm'];obtain rfl:n2=n1+1+1:=hn2
 have hx0:∀ x∈xo'.map cD,nG x:=fun x hx=>by obtain ⟨y,hy,rfl⟩:=List.mem_map.1 hx;exact dQ (hot' y hy)
 have hget:∀ i∈iP xd xd.length,i<xo.length/\i<xo'.length/\pG xd i=false/\∃ x,xo[i]?=some x/\x∈xo:=fun i hi=>by
  obtain ⟨h1,h2⟩:=BI.1 hi;exact ⟨by omega,by omega,h2,xo[i]'(by omega),List.getElem?_eq_getElem (by omega),List.getElem_mem _⟩
 have hall:∀ k,∀ x∈iQ xo (xo'.map cD) ((iP xd xd.length).take k),nG x:=fun k=>wM _ _ hx0 fun i hi=>by
  obtain ⟨_,_,_,x,hx,hm⟩:=hget i (List.mem_of_mem_take hi);rw [List.getD_eq_getElem?_getD,hx];exact dQ (hot x hm)
 let J:Nat->Sto->Prop:=fun k u=>(∀ i,i<n0->u.get i=(Sto.mk n0 low0 o0).get i)/\u.get n0=some (aS 0 [.ptr id 0 0])/\u.get (n0+1)=some (aS 0 [.nils,.nils,.nils,.nils,.int .i64 0])/\u.get n1=some (aS 0 [vo,aJ ts',aJ us',aJ is',no'])/\u.get (n1+1)=some (aS 0 [.ptr id 0 0])/\StN (n0+1+1) n1 u vo (iQ xo (xo'.map cD) ((iP xd xd.length).take k))/\n1+1<u.n
 have hJs:∀ k (u u':Sto),SimX (n1+1+1+1) u u'->J k u->J k u':=by
  rintro k u u' hx ⟨q1,q2,q3,q4,q5,q6,q7⟩;refine ⟨fun i hi=>?_,hx.get q2 (by omega),hx.get q3 (by omega),hx.get q4 (by omega),hx.get q5 (by omega),q6.keep fun i h1 _ h2=>hx.2 i h1 (by omega),Nat.lt_of_lt_of_le q7 hx.1⟩;rw [<-q1 i hi];exact hx.2 i (by omega) (by omega)
 have hJd:∀ k u,J k u->StN lo' hi' u d xd:=fun k u ⟨q1,_⟩=>hd.keep fun i h1 _ _=>q1 i h1
 have hJg:∀ k u,J k u->GSt (n1+1) id (oR os ts us is no ns fs mm cs os' ts' us' is' no' d g) lo' hi' d xd u:=fun k u h=>⟨h.2.2.2.2.1,(h.1 id hlt').trans (by rw [Sto.get_mk hlt'];exact g0'),hJd k u h⟩
 refine LF (xs:=mU xd xd.length) J (fun _ _=>False) (fun _ _=>False) (GSt (n1+1) id (oR os ts us is no ns fs mm cs os' ts' us' is' no' d g) lo' hi' d xd) ?_ hJg hJs (fun _ _ _ _ h=>h) (fun _ _ _ _ h=>h) (fun _ _ h=>h.elim) ?_ ?_ ?_ (fun _ _ _ h=>h.elim) (fun _ _ _ _ h=>h.elim) (fun _ _ h=>h.elim)
 ·simp +decide only [↓ aB]
  exact wU (by omega) hdt h66
 ·have hst:StN (n0+1+1) n1 ⟨n1,low1,o1⟩ vo (xo'.map cD):=StN.acc hacc
  refine ⟨fun i hi=>?_,hs2.get ?_,hs2.get ?_,hs2.get ?_,hbx,?_,Nat.lt_succ_self _⟩
  ·rw [hs2.2 i (show i<n1+1 by omega),Sto.get_mk (show i<n1+1 by omega),Sto.get_mk hi,Tr.get_set_ne _ _ (by omega),Tr.get_set_ne _ _ (by omega)]
   exact hold i hi
  ·rw [Sto.get_mk (show n0<n1+1 by omega)];exact by simp +decide only [↓ aB,bE,ne_eq,gg0,fA]
  ·rw [Sto.get_mk (show n0+1<n1+1 by omega)];exact by simp +decide only [↓ aB,bE,ne_eq,gg1,fB]
  ·rw [Sto.get_mk (show n1<n1+1 by omega)];exact by simp +decide only [↓ aB]
  ·refine hst.keep fun i hi h1 h2=>?_
   rw [hs2.2 i (show i<n1+1 by omega),Sto.get_mk (show i<n1+1 by omega),Sto.get_mk h2,Tr.get_set_ne _ _ (by omega),Tr.get_set_ne _ _ (by omega)]
 ·rintro k x hx ⟨n,low,o⟩ hn hg1 hg2 hJ
  have hn':n1+1+1+1<n:=hn
  obtain ⟨m,hm,rfl⟩:∃ m,(iP xd xd.length)[k]?=some m/\x=[.int .i64 (m:Nat)]:=by
   rw [BH,List.getElem?_map]at hx
   cases hmk:(iP xd xd.length)[k]? with
   | none=>rw [hmk]at hx;cases hx
   | some m=>rw [hmk]at hx;exact ⟨m,rfl,by simpa using hx.symm⟩
  have hmm:m∈iP xd xd.length:=List.mem_of_getElem? hm;obtain ⟨hm1,hm2,hm3,x,hxm,hxx⟩:=hget m hmm;have hTx:=hot x hxx
  have h67x:=fun S=>h67 x S hTx (hos x hxx)
  have hall':=hall k
  have htk:(iP xd xd.length).take (k+1)=(iP xd xd.length).take k++[m]:=by rw [List.take_add_one,hm];rfl
  obtain ⟨q1,q2,q3,q4,q5,q6,q7⟩:=hJ
  have hpl:(iQ xo (xo'.map cD) ((iP xd xd.length).take k)).length=xo'.length:=by rw [jT,List.length_map]
  obtain ⟨ido,gdo,cdo,hvo,go0,hlo,hhi,_⟩:=q6.at_ (show m<_ by rw [hpl];omega);obtain ⟨idw,gdw,cdw,rfl,gw0,_,_,fw0⟩:=ho.at_ hm1;have fw0':idw<n0:=fw0
  have go1:o.get ido=some (aS gdo ((iQ xo (xo'.map cD) ((iP xd xd.length).take k)).map AV.cells).flatten):=by rw [Sto.get_mk (show ido<n by omega)]at go0;exact go0
  have gw1:o.get idw=some (aS gdw (xo.map AV.cells).flatten):=by
   have:=q1 idw fw0';rw [Sto.get_mk (show idw<n by omega),Sto.get_mk fw0']at this;rw [Sto.get_mk fw0']at gw0;exact this.trans gw0
  have gd1:o.get id=some (aS 0 [.sl idw gdw 0 xo.length cdw,ts,us,is,no,ns,fs,mm,cs,os',ts',us',is',no',d,g]):=by
   have:=q1 id hlt';rw [Sto.get_mk (show id<n by omega),Sto.get_mk hlt']at this;exact this.trans g0'
  have q2':o.get n0=some (aS 0 [.ptr id 0 0]):=by rw [Sto.get_mk (show n0<n by omega)]at q2;exact q2
  have q4':o.get n1=some (aS 0 [.sl ido gdo 0 (iQ xo (xo'.map cD) ((iP xd xd.length).take k)).length cdo,aJ ts',aJ us',aJ is',no']):=by rw [Sto.get_mk (show n1<n by omega),hvo]at q4;exact q4
  obtain ⟨hroww,hrlw⟩:=qI (fun x hx=>tk_ob.len (hot x hx)) hxm;have hset:=HN (fun x hx=>tk_ob.len (hall' x hx)) (show m<(iQ xo (xo'.map cD) ((iP xd xd.length).take k)).length by rw [hpl];exact hm2) (x:=cD x) (tk_ob.len (dQ hTx));have hrl:m*4+4<=((iQ xo (xo'.map cD) ((iP xd xd.length).take k)).map AV.cells).flatten.length:=(qI (fun x hx=>tk_ob.len (hall' x hx)) (List.getElem?_eq_getElem (show m<(iQ xo (xo'.map cD) ((iP xd xd.length).take k)).length by rw [hpl];exact hm2))).2
  have hputm:iQ xo (xo'.map cD) ((iP xd xd.length).take (k+1))=(iQ xo (xo'.map cD) ((iP xd xd.length).take k)).set m (cD x):=by
   rw [htk,yV,List.getD_eq_getElem?_getD,hxm];rfl
  rw [hpl]at q4';generalize iQ xo (xo'.map cD) ((iP xd xd.length).take k)=L at *;generalize hFw:(xo.map AV.cells).flatten=Fw at *;generalize hFl:(L.map AV.cells).flatten=Fl at *;have k3:(((m:Nat):Int)<((xo.length:Nat):Int))=True:=eq_true (by omega);have k4:(0<=((m:Nat):Int))=True:=eq_true (by omega);have k5:(((m:Nat):Int)<((xo'.length:Nat):Int))=True:=eq_true (by omega);have f0:=mM (show n0<n by omega);have f1:=mM (show n1<n by omega);have f2:=mM (show id<n by omega);have f3:=mM (show ido<n by omega);have f4:=mM (show idw<n by omega)
  have f5:n0≠n1+1+1+1/\n1≠n1+1+1+1/\id≠n1+1+1+1/\ido≠n1+1+1+1/\idw≠n1+1+1+1/\n1+1+1+1≠ido/\n1+1+1≠ido/\n1+1+1<n/\n1+1+1+1<n:=by omega
  have hg2':(Sto.mk n low o).get (n1+1+1+1)=_:=hg2;rw [Sto.get_mk (show n1+1+1+1<n by omega)]at hg2'
  have hg1':o.get (n1+1+1)=some (.defs (some [])):=by
   have:(Sto.mk n low o).get (n1+1+1)=_:=hg1;rw [Sto.get_mk (show n1+1+1<n by omega)]at this;exact this
  obtain ⟨zs,hcp,hzl,hzc⟩:=(tk_ob _ (dQ hTx)).2
  have hag:AV.agg x.cells=x:=by obtain ⟨_,_,_,_,rfl,_⟩:=hTx;rfl
  have hul:gI n zs:=qH (dT (hcp ▸ (tk_ob _ (dQ hTx)).1));rw [hcp]at h67x hset hputm;rw [show (AV.agg zs).cells=zs from rfl]at hset;refine ⟨_,rfl,?_⟩;clear hg1 hg2 hn;simp +contextual +decide (maxSteps:=1000000) only [↓ wP,wQ,tf,Nat.reduceAdd,wS,q2',q4',gd1,gw1,go1,f0,f1,f2,f3,f4,f5,hg2',k3,k4,k5,hroww,hrlw,hag,h67x,hul,hg1',wC,hzl,hzc,hset,hrl,oX,oW,Env.setS,Int.toNat_natCast,Nat.zero_add]
  have hoth:∀ (i:Nat) (l':Nat) (X Y:AObj),i<n->i≠ido->i≠n1+1+1+1->(Sto.mk n l' ((o.set (n1+1+1+1) X).set ido Y)).get i=(Sto.mk n low o).get i:=fun i l' X Y h1 h2 h3=>by
   rw [Sto.get_mk h1,Sto.get_mk h1,Tr.get_set_ne _ _ h2,Tr.get_set_ne _ _ h3]
  refine ⟨fun i hi=>?_,?_,?_,?_,?_,.inr ⟨ido,gdo,cdo,?_,?_,hlo,hhi⟩,show n1+1<n by omega⟩
  ·rw [hoth i _ _ _ (by omega) (by omega) (by omega)];exact q1 i hi
  ·rw [hoth n0 _ _ _ (by omega) (by omega) (by omega)];exact q2
  ·rw [hoth (n0+1) _ _ _ (by omega) (by omega) (by omega)];exact q3
  ·rw [hoth n1 _ _ _ (by omega) (by omega) (by omega)];exact q4
  ·rw [hoth (n1+1) _ _ _ (by omega) (by omega) (by omega)];exact q5
  ·rw [hvo,hputm,List.length_set,hpl]
  ·rw [hputm,Sto.get_mk (show ido<n by omega)];exact Tr.get_set_same _ _ _
 ·rintro ⟨n,low,o⟩ hn hg1 hJ
  have hn':n1+1+1+1<n:=hn;obtain ⟨q1,q2,q3,q4,q5,q6,q7⟩:=hJ;rw [show (mU xd xd.length).length=(iP xd xd.length).length by rw [BH,List.length_map],List.take_length,CN hdl]at q6;rw [Sto.get_mk (show n0+1<n by omega)]at q3;rw [Sto.get_mk (show n1<n by omega)]at q4
  have hg1':o.get (n1+1+1)=some (.defs (some [])):=by
   have:(Sto.mk n low o).get (n1+1+1)=_:=hg1;rw [Sto.get_mk (show n1+1+1<n by omega)]at this;exact this
  have f0:=mM (show n1<n by omega);have f1:=mM (show n0+1<n by omega);have f2:=mM (show n1+1+1<n by omega);simp +contextual +decide (maxSteps:=1000000) only [↓ wP,wQ,tf,Nat.reduceAdd,wS,q3,q4,f0,f1,jR,hcv,k2,k3,k4,c5];refine ⟨rfl,_,zW (by rw [Sto.get_mk (show n1+1+1<n by omega)];exact by simp +decide only [↓ aB,bE,ne_eq,hg1',fB]),[.agg [vo,aJ ts',aJ us',aJ is',no']],?_,?_⟩
  ·simp +contextual +decide (maxSteps:=1000000) only [↓ wP,wQ,tf,Nat.reduceAdd,wS,f1,fB,bA,Option.bind_some]
  ·refine ⟨fun i hi=>?_,?_⟩
   ·show (Sto.put ⟨n,_,o.set (n0+1) _⟩ (n1+1+1) _).get i=_
    have:=q1 i hi;rw [Sto.get_mk (show i<n by omega),Sto.get_mk hi]at this;rw [Sto.put_any,Sto.get_mk (show i<n by omega),Tr.get_set_ne _ _ (by omega),Tr.get_set_ne _ _ (by omega),this]
   ·show Frz (Sto.put ⟨n,_,o.set (n0+1) _⟩ (n1+1+1) _) n0 (.agg [vo,aJ ts',aJ us',aJ is',no']) (.agg [bN (mT xo xo' xd),aJ ts',aJ us',aJ is',no'])
    rw [Sto.put_any];have hw:=hall (iP xd xd.length).length;rw [List.take_length,CN hdl]at hw
    have hwl:mT xo xo' xd=[]->vo=.nils:=fun h0=>by
     rcases hacc with ⟨_,h1⟩ | ⟨h1,_⟩
     ·exact h1
     ·exfalso
      have:=CO (xo:=xo) (xo':=xo') (xd:=xd);rw [h0]at this;exact h1 (by rw [List.length_eq_zero_iff.1 (show xo'.length=0 from this.symm)];rfl)
    have und:=fun {T:AV->Prop} (hT:Tu T) {a:AV} (h:T a)=>Frz.und (S:=⟨n,Nat.min (n1+1+1) (Nat.min (n0+1) low),(o.set (n0+1) (aS 0 [vo,aJ ts',aJ us',aJ is',no'])).set (n1+1+1) (.defs none)⟩) (n:=n0) a ((hT a h).1.mono (Nat.zero_le _)).und
    refine .agg _ _ rfl (aL (stn_frz (lo:=n0+1+1) (hi:=n1) ?_ (by omega) tk_ob hw hwl) (aL (und aM (bF h2)) (aL (und cJ (bF h3)) (aL (und aM (bF h4)) (aL (und tu_int h5) fO)))))
    refine q6.keep fun i h1 h2 h3=>?_
    rw [Sto.get_mk h1,Sto.get_mk h1,Tr.get_set_ne _ _ (by omega),Tr.get_set_ne _ _ (by omega)]
end
end
end Go.Proofs.YtkocnhkbgcjpbaaGreat
