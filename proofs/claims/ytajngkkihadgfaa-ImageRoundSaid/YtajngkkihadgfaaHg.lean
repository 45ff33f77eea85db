/-
  The reference of images: its reader reads lists of values.
-/
import Derived.Test.YtajngkkihadgfaaHd
set_option linter.unusedVariables false
set_option linter.unusedSimpArgs false
namespace Go.Proofs.Ytajngkkihadgfaa
open Go.Abs Go Go.Abs.TryF
noncomputable section
set_option maxRecDepth 10000
def sV (l:List Nat) (n:Nat):Nat->Nat->List eN->Nat × Bool->List eN × Nat × Bool
 | 0,_,acc,st=>(acc,st)
 | k+1,i,acc,st=>if i<n/\i<=30/\st.2=false then sV l n k (i+1) (acc++[((((sJ l st).1:Nat):Int),(FQ l (sJ l st).2).1)]) (FQ l (sJ l st).2).2 else (acc,st)
def qG (l:List Nat) (st:Nat × Bool):List eN × Nat × Bool:=sV l (uU l st).1 32 0 [] (uU l st).2
def bV (l:List eN):AV:=if l=[] then .nils else .fz (l.map eI) false
def gV (v:eN):List AV:=[.int .i64 v.1,.int .i64 v.2]
theorem DE (l:List eN):∀ x∈l.map gV,x.length=2:=fun x hx=>by obtain ⟨y,_,rfl⟩:=List.mem_map.1 hx;rfl
theorem aBn (l:List eN):(l.map gV).map .agg=l.map eI:=by rw [List.map_map];rfl
def VAcc (n0 n:Nat) (o:Tr AObj) (v:AV) (l:List eN):Prop:=(l=[]/\v=.nils)∨(l≠[]/\∃ id g,v=.sl id g 0 l.length (.room 2)/\o.get id=some (aU g (l.map gV).flatten)/\n0<=id/\id<n)
theorem VAcc.frz {n0 n low:Nat} {o:Tr AObj} {v:AV} {l:List eN} (h:VAcc n0 n o v l):Frz ⟨n,low,o⟩ n0 v (bV l):=by
 rcases h with ⟨rfl,rfl⟩ | ⟨hl,id,g,rfl,hid,h1,h2⟩
 ·exact .und _ eQ
 ·rw [bV,if_neg hl,<-aBn]
  refine IM (g:=g) (k:=2) h1 (by rw [Sto.get_mk h2];exact hid) (by simp) (DE _) fun x hx y hy=>?_
  obtain ⟨z,_,rfl⟩:=List.mem_map.1 hx
  simp only [gV,List.mem_cons,List.not_mem_nil,or_false]at hy
  rcases hy with rfl | rfl<;>exact aV
theorem yY {n low low' r n':Nat} {o o':Tr AObj} {x:AObj} {rv v:AV} (hr:r<n) (hn:n<=n') (hl:r<=low') (hx:o'.get r=some x) (ho:∀ id,id<n->id≠r->o'.get id=o.get id) (hv:Frz ⟨n',low',o'⟩ n rv v):aJd ⟨n,low,o⟩ r x v ⟨n',low',o'⟩ rv:=by
 refine ⟨hl,by rw [Sto.get_mk (by omega)];exact hx,fun id hid hne=>?_,hv⟩
 have hid':id<n:=hid
 rw [Sto.get_mk hid',Sto.get_mk (by omega)];exact ho id hid' hne
end
end Go.Proofs.Ytajngkkihadgfaa
/-
 The reference of images: its reader reads objects.
-/
namespace Go.Proofs.Ytajngkkihadgfaa
open Go.Abs Go Go.Abs.TryF
noncomputable section
set_option maxRecDepth 10000
def frF (l:List Nat) (st:Nat × Bool):Fr × Nat × Bool:=(⟨((uU l st).1:Nat),(qG l (uU l st).2).1,(qG l (qG l (uU l st).2).2).1⟩,(qG l (qG l (uU l st).2).2).2)
def wU (l:List Nat) (n:Nat):Nat->Nat->List Fr->Nat × Bool->List Fr × Nat × Bool
 | 0,_,acc,st=>(acc,st)
 | k+1,i,acc,st=>if i<n/\i<=40/\st.2=false then wU l n k (i+1) (acc++[(frF l st).1]) (frF l st).2 else (acc,st)
def aKw (l:List Nat) (st:Nat × Bool):List Fr × Nat × Bool:=wU l (uU l st).1 42 0 [] (uU l st).2
def obF (l:List Nat) (st:Nat × Bool):Ob × Nat × Bool:=
 (⟨((sJ l st).1:Nat),(FQ l (sJ l st).2).1,(qG l (FQ l (sJ l st).2).2).1,(aKw l (qG l (FQ l (sJ l st).2).2).2).1⟩,(aKw l (qG l (FQ l (sJ l st).2).2).2).2)
def PB (f:Fr):List AV:=[.int .i64 f.node,bV f.env,bV f.vals]
def gW (l:List Fr):AV:=if l=[] then .nils else .fz ((l.map PB).map .agg) false
def tY (o:Ob):AV:=.agg [.int .i64 o.form,.int .i64 o.n,bV o.vals,gW o.frs]
theorem jV {l:List eN} (h:l.length<=9223372036854775807):cA (bV l)=some l:=by
 refine QP ⟨?_,by simpa using h⟩
 unfold bV
 by_cases h0:l=[]
 ·subst h0;exact .inl ⟨by simp,rfl⟩
 ·rw [if_neg h0];exact .inr ⟨false,rfl⟩
theorem bQ {l:List eN}:(bV l).isCell=true:=by unfold bV;split<;>rfl
theorem valsA_under {n:Nat} {l:List eN}:UnderE n (bV l):=by
 unfold bV
 split
 ·exact ⟨1,rfl⟩
 ·refine lH fun x hx=>?_
  obtain ⟨y,_,rfl⟩:=List.mem_map.1 hx
  exact ⟨2,rfl⟩
theorem TP (l:List Fr):∀ x∈l.map PB,x.length=3:=fun x hx=>by obtain ⟨y,_,rfl⟩:=List.mem_map.1 hx;rfl
def FAcc (n0 n:Nat) (o:Tr AObj) (v:AV) (l:List Fr):Prop:=(l=[]/\v=.nils)∨(l≠[]/\∃ id g,v=.sl id g 0 l.length (.room 3)/\o.get id=some (aU g (l.map PB).flatten)/\n0<=id/\id<n)
theorem FAcc.frz {n0 n low:Nat} {o:Tr AObj} {v:AV} {l:List Fr} (h:FAcc n0 n o v l):Frz ⟨n,low,o⟩ n0 v (gW l):=by
 rcases h with ⟨rfl,rfl⟩ | ⟨hl,id,g,rfl,hid,h1,h2⟩
 ·exact .und _ eQ
 ·rw [gW,if_neg hl]
  refine IM (g:=g) (k:=3) h1 (by rw [Sto.get_mk h2];exact hid) (by simp) (TP _) fun x hx y hy=>?_
  obtain ⟨z,_,rfl⟩:=List.mem_map.1 hx
  simp only [PB,List.mem_cons,List.not_mem_nil,or_false]at hy
  rcases hy with rfl | rfl | rfl
  ·exact aV
  ·exact valsA_under.und
  ·exact valsA_under.und
section
variable {n low r:Nat} {o:Tr AObj} {l:List Nat} {st:Nat × Bool}
end
end
end Go.Proofs.Ytajngkkihadgfaa
/-
 The reference of images: the object of bytes.
-/
namespace Go.Proofs.Ytajngkkihadgfaa
open Go.Abs Go Go.Abs.TryF
noncomputable section
set_option maxRecDepth 10000
theorem DF {l:List Nat} {n:Nat}:∀ (k i:Nat) (acc:List eN) (st:Nat × Bool),(sV l n k i acc st).1.length<=acc.length+k
 | 0,_,_,_=>Nat.le_refl _
 | k+1,i,acc,st=>by
   unfold sV
   split
   ·refine Nat.le_trans (DF k _ _ _) ?_
    rw [List.length_append,List.length_singleton];omega
   ·show acc.length<=_;omega
theorem yZ {l:List Nat} {st:Nat × Bool}:(qG l st).1.length<=32:=by
 have:=DF (l:=l) (n:=(uU l st).1) 32 0 [] (uU l st).2
 rw [List.length_nil,Nat.zero_add]at this;exact this
def HA (f:Fr):Prop:=f.env.length<=32/\f.vals.length<=32
theorem aGt {l:List Nat} {st:Nat × Bool}:HA (frF l st).1:=⟨yZ,yZ⟩
theorem HB {l:List Nat} {n:Nat}:∀ (k i:Nat) (acc:List Fr) (st:Nat × Bool),(∀ f∈acc,HA f)->(wU l n k i acc st).1.length<=acc.length+k/\∀ f∈(wU l n k i acc st).1,HA f
 | 0,_,_,_,h=>⟨Nat.le_refl _,h⟩
 | k+1,i,acc,st,h=>by
   unfold wU
   split
   ·have:=HB (l:=l) (n:=n) k (i+1) (acc++[(frF l st).1]) (frF l st).2 (fun f hf=>by
     rcases List.mem_append.1 hf with hf | hf
     ·exact h f hf
     ·rw [List.mem_singleton]at hf;subst hf;exact aGt)
    refine ⟨Nat.le_trans this.1 (by rw [List.length_append,List.length_singleton];omega),this.2⟩
   ·exact ⟨show acc.length<=_ by omega,h⟩
theorem tZ {α:Type} {f:AV->Option α} {g:α->AV}:∀ l:List α,(∀ x∈l,f (g x)=some x)->AZ f (l.map g)=some l
 | [],_=>rfl
 | x::l,h=>by simp only [List.map_cons,AZ,h x (List.mem_cons_self ..),tZ l fun y hy=>h y (List.mem_cons_of_mem _ hy)]
theorem aGu {f:Fr} (h:HA f):mC (.agg (PB f))=some f:=by
 have h1:=jV (l:=f.env) (by have:=h.1;omega)
 have h2:=jV (l:=f.vals) (by have:=h.2;omega)
 show (match cA (bV f.env),cA (bV f.vals) with
  | some e,some v=>some (Fr.mk f.node e v)
  | _,_=>none)=_
 rw [h1,h2]
theorem aBo {l:List Fr} (h:∀ f∈l,HA f) (hl:l.length<=9223372036854775807):iO (gW l)=some l:=by
 unfold gW
 by_cases h0:l=[]
 ·subst h0;rfl
 ·rw [if_neg h0]
  show (if _ then _ else _)=_
  rw [if_pos (by simpa using hl),List.map_map]
  exact tZ (g:=fun f=>.agg (PB f)) l fun f hf=>aGu (h f hf)
theorem aGv {o:Ob} (h1:o.vals.length<=32) (h2:o.frs.length<=42) (h3:∀ f∈o.frs,HA f):dZ (tY o)=some o:=by
 show (match cA (bV o.vals),iO (gW o.frs) with
  | some v,some f=>some (Ob.mk o.form o.n v f)
  | _,_=>none)=_
 rw [jV (by omega),aBo h3 (by omega)]
theorem TQ (l:List Nat) (st:Nat × Bool):dZ (tY (obF l st).1)=some (obF l st).1:=by
 have h:=HB (l:=l) (n:=(uU l (qG l (FQ l (sJ l st).2).2).2).1) 42 0 [] (uU l (qG l (FQ l (sJ l st).2).2).2).2 (fun f hf=>nomatch hf)
 have h1:=h.1
 rw [List.length_nil,Nat.zero_add]at h1
 exact aGv yZ h1 h.2
theorem gK {l:List Fr}:(gW l).isCell=true:=by unfold gW;split<;>rfl
theorem frsA_under {n:Nat} {l:List Fr}:UnderE n (gW l):=by
 unfold gW
 split
 ·exact ⟨1,rfl⟩
 ·refine lH fun x hx=>?_
  rw [List.map_map]at hx
  obtain ⟨y,_,rfl⟩:=List.mem_map.1 hx
  refine eC fun z hz=>?_
  simp only [PB,List.mem_cons,List.not_mem_nil,or_false]at hz
  rcases hz with rfl | rfl | rfl
  ·exact ⟨1,rfl⟩
  ·exact valsA_under
  ·exact valsA_under
theorem obA_under {n:Nat} {o:Ob}:UnderE n (tY o):=eC fun x hx=>by
 simp only [List.mem_cons,List.not_mem_nil,or_false]at hx
 rcases hx with rfl | rfl | rfl | rfl
 ·exact ⟨1,rfl⟩
 ·exact ⟨1,rfl⟩
 ·exact valsA_under
 ·exact frsA_under
def gP (s:List Nat):Option Ob:=if (obF s (0,false)).2.2=false/\gR (obF s (0,false)).1=true/\kC (obF s (0,false)).1=s then some (obF s (0,false)).1 else none
def sW:Ob:=⟨0,0,[],[]⟩
theorem QN:tY sW=.agg [.int .i64 0,.int .i64 0,.nils,.nils]:=rfl
def pM (s:List Nat):AV:=match gP s with
 | some o=>.tuple [tY o,.int .i64 0]
 | none=>.tuple [tY sW,.int .i64 4]
theorem TR {o:Ob} {v:AV} (h:Und 0 v):Und 0 (.tuple [tY o,v]):=dD (aE obA_under.und (aE h aI))
end
end Go.Proofs.Ytajngkkihadgfaa
