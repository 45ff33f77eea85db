/-
  The reference of images: its reader reads lists of values.
-/
import Derived.Test.YtajngkkihadgfaaHd
set_option linter.unusedVariables false
set_option linter.unusedSimpArgs false
namespace Go.Proofs.Ytajngkkihadgfaa
open Go.Abs Go Go.Abs.TryF
noncomputable section
set_option maxRecDepth 10000
def sI (l:List Nat) (n:Nat):Nat->Nat->List eA->Nat × Bool->List eA × Nat × Bool
 | 0,_,acc,st=>(acc,st)
 | k+1,i,acc,st=>if i<n/\i<=30/\st.2=false then sI l n k (i+1) (acc++[((((rT l st).1:Nat):Int),(EX l (rT l st).2).1)]) (EX l (rT l st).2).2 else (acc,st)
def pZ (l:List Nat) (st:Nat × Bool):List eA × Nat × Bool:=sI l (uM l st).1 32 0 [] (uM l st).2
def cN (l:List eA):AV:=if l=[] then .nils else .fz (l.map fJ) false
def dW (v:eA):List AV:=[.int .i64 v.1,.int .i64 v.2]
theorem MO (l:List eA):∀ x∈l.map dW,x.length=2:=fun x hx=>by obtain ⟨y,_,rfl⟩:=List.mem_map.1 hx;rfl
theorem aBp (l:List eA):(l.map dW).map .agg=l.map fJ:=by rw [List.map_map];rfl
def VAcc (n0 n:Nat) (o:Tr AObj) (v:AV) (l:List eA):Prop:=(l=[]/\v=.nils)∨(l≠[]/\∃ id g,v=.sl id g 0 l.length (.room 2)/\o.get id=some (bE g (l.map dW).flatten)/\n0<=id/\id<n)
theorem VAcc.frz {n0 n low:Nat} {o:Tr AObj} {v:AV} {l:List eA} (h:VAcc n0 n o v l):Frz ⟨n,low,o⟩ n0 v (cN l):=by
 rcases h with ⟨rfl,rfl⟩ | ⟨hl,id,g,rfl,hid,h1,h2⟩
 ·exact .und _ eR
 ·rw [cN,if_neg hl,<-aBp]
  refine BD (g:=g) (k:=2) h1 (by rw [Sto.get_mk h2];exact hid) (by simp) (MO _) fun x hx y hy=>?_
  obtain ⟨z,_,rfl⟩:=List.mem_map.1 hx
  simp only [dW,List.mem_cons,List.not_mem_nil,or_false]at hy
  rcases hy with rfl | rfl<;>exact aV
theorem yT {n low low' r n':Nat} {o o':Tr AObj} {x:AObj} {rv v:AV} (hr:r<n) (hn:n<=n') (hl:r<=low') (hx:o'.get r=some x) (ho:∀ id,id<n->id≠r->o'.get id=o.get id) (hv:Frz ⟨n',low',o'⟩ n rv v):aJg ⟨n,low,o⟩ r x v ⟨n',low',o'⟩ rv:=by
 refine ⟨hl,by rw [Sto.get_mk (by omega)];exact hx,fun id hid hne=>?_,hv⟩
 have hid':id<n:=hid
 rw [Sto.get_mk hid',Sto.get_mk (by omega)];exact ho id hid' hne
end
end Go.Proofs.Ytajngkkihadgfaa
/-
 The reference of images: its reader reads objects.
-/
namespace Go.Proofs.Ytajngkkihadgfaa
open Go.Abs Go Go.Abs.TryF
noncomputable section
set_option maxRecDepth 10000
def frF (l:List Nat) (st:Nat × Bool):Fr × Nat × Bool:=(⟨((uM l st).1:Nat),(pZ l (uM l st).2).1,(pZ l (pZ l (uM l st).2).2).1⟩,(pZ l (pZ l (uM l st).2).2).2)
def wT (l:List Nat) (n:Nat):Nat->Nat->List Fr->Nat × Bool->List Fr × Nat × Bool
 | 0,_,acc,st=>(acc,st)
 | k+1,i,acc,st=>if i<n/\i<=40/\st.2=false then wT l n k (i+1) (acc++[(frF l st).1]) (frF l st).2 else (acc,st)
def aLa (l:List Nat) (st:Nat × Bool):List Fr × Nat × Bool:=wT l (uM l st).1 42 0 [] (uM l st).2
def obF (l:List Nat) (st:Nat × Bool):Ob × Nat × Bool:=
 (⟨((rT l st).1:Nat),(EX l (rT l st).2).1,(pZ l (EX l (rT l st).2).2).1,(aLa l (pZ l (EX l (rT l st).2).2).2).1⟩,(aLa l (pZ l (EX l (rT l st).2).2).2).2)
def PE (f:Fr):List AV:=[.int .i64 f.node,cN f.env,cN f.vals]
def jK (l:List Fr):AV:=if l=[] then .nils else .fz ((l.map PE).map .agg) false
def wU (o:Ob):AV:=.agg [.int .i64 o.form,.int .i64 o.n,cN o.vals,jK o.frs]
theorem lK {l:List eA} (h:l.length<=9223372036854775807):cE (cN l)=some l:=by
 refine QM ⟨?_,by simpa using h⟩
 unfold cN
 by_cases h0:l=[]
 ·subst h0;exact .inl ⟨by simp,rfl⟩
 ·rw [if_neg h0];exact .inr ⟨false,rfl⟩
theorem cZ {l:List eA}:(cN l).isCell=true:=by unfold cN;split<;>rfl
theorem valsA_under {n:Nat} {l:List eA}:UnderE n (cN l):=by
 unfold cN
 split
 ·exact ⟨1,rfl⟩
 ·refine tM fun x hx=>?_
  obtain ⟨y,_,rfl⟩:=List.mem_map.1 hx
  exact ⟨2,rfl⟩
theorem TX (l:List Fr):∀ x∈l.map PE,x.length=3:=fun x hx=>by obtain ⟨y,_,rfl⟩:=List.mem_map.1 hx;rfl
def FAcc (n0 n:Nat) (o:Tr AObj) (v:AV) (l:List Fr):Prop:=(l=[]/\v=.nils)∨(l≠[]/\∃ id g,v=.sl id g 0 l.length (.room 3)/\o.get id=some (bE g (l.map PE).flatten)/\n0<=id/\id<n)
theorem FAcc.frz {n0 n low:Nat} {o:Tr AObj} {v:AV} {l:List Fr} (h:FAcc n0 n o v l):Frz ⟨n,low,o⟩ n0 v (jK l):=by
 rcases h with ⟨rfl,rfl⟩ | ⟨hl,id,g,rfl,hid,h1,h2⟩
 ·exact .und _ eR
 ·rw [jK,if_neg hl]
  refine BD (g:=g) (k:=3) h1 (by rw [Sto.get_mk h2];exact hid) (by simp) (TX _) fun x hx y hy=>?_
  obtain ⟨z,_,rfl⟩:=List.mem_map.1 hx
  simp only [PE,List.mem_cons,List.not_mem_nil,or_false]at hy
  rcases hy with rfl | rfl | rfl
  ·exact aV
  ·exact valsA_under.und
  ·exact valsA_under.und
section
variable {n low r:Nat} {o:Tr AObj} {l:List Nat} {st:Nat × Bool}
end
end
end Go.Proofs.Ytajngkkihadgfaa
/-
 The reference of images: the object of bytes.
-/
namespace Go.Proofs.Ytajngkkihadgfaa
open Go.Abs Go Go.Abs.TryF
noncomputable section
set_option maxRecDepth 10000
theorem CV {l:List Nat} {n:Nat}:∀ (k i:Nat) (acc:List eA) (st:Nat × Bool),(sI l n k i acc st).1.length<=acc.length+k
 | 0,_,_,_=>Nat.le_refl _
 | k+1,i,acc,st=>by
   unfold sI
   split
   ·refine Nat.le_trans (CV k _ _ _) ?_
    rw [List.length_append,List.length_singleton];omega
   ·show acc.length<=_;omega
theorem yU {l:List Nat} {st:Nat × Bool}:(pZ l st).1.length<=32:=by
 have:=CV (l:=l) (n:=(uM l st).1) 32 0 [] (uM l st).2
 rw [List.length_nil,Nat.zero_add]at this;exact this
def GR (f:Fr):Prop:=f.env.length<=32/\f.vals.length<=32
theorem aGp {l:List Nat} {st:Nat × Bool}:GR (frF l st).1:=⟨yU,yU⟩
theorem GS {l:List Nat} {n:Nat}:∀ (k i:Nat) (acc:List Fr) (st:Nat × Bool),(∀ f∈acc,GR f)->(wT l n k i acc st).1.length<=acc.length+k/\∀ f∈(wT l n k i acc st).1,GR f
 | 0,_,_,_,h=>⟨Nat.le_refl _,h⟩
 | k+1,i,acc,st,h=>by
   unfold wT
   split
   ·have:=GS (l:=l) (n:=n) k (i+1) (acc++[(frF l st).1]) (frF l st).2 (fun f hf=>by
     rcases List.mem_append.1 hf with hf | hf
     ·exact h f hf
     ·rw [List.mem_singleton]at hf;subst hf;exact aGp)
    refine ⟨Nat.le_trans this.1 (by rw [List.length_append,List.length_singleton];omega),this.2⟩
   ·exact ⟨show acc.length<=_ by omega,h⟩
theorem tH {α:Type} {f:AV->Option α} {g:α->AV}:∀ l:List α,(∀ x∈l,f (g x)=some x)->AT f (l.map g)=some l
 | [],_=>rfl
 | x::l,h=>by simp only [List.map_cons,AT,h x (List.mem_cons_self ..),tH l fun y hy=>h y (List.mem_cons_of_mem _ hy)]
theorem aGq {f:Fr} (h:GR f):sM (.agg (PE f))=some f:=by
 have h1:=lK (l:=f.env) (by have:=h.1;omega)
 have h2:=lK (l:=f.vals) (by have:=h.2;omega)
 show (match cE (cN f.env),cE (cN f.vals) with
  | some e,some v=>some (Fr.mk f.node e v)
  | _,_=>none)=_
 rw [h1,h2]
theorem aBq {l:List Fr} (h:∀ f∈l,GR f) (hl:l.length<=9223372036854775807):nQ (jK l)=some l:=by
 unfold jK
 by_cases h0:l=[]
 ·subst h0;rfl
 ·rw [if_neg h0]
  show (if _ then _ else _)=_
  rw [if_pos (by simpa using hl),List.map_map]
  exact tH (g:=fun f=>.agg (PE f)) l fun f hf=>aGq (h f hf)
theorem aGr {o:Ob} (h1:o.vals.length<=32) (h2:o.frs.length<=42) (h3:∀ f∈o.frs,GR f):fG (wU o)=some o:=by
 show (match cE (cN o.vals),nQ (jK o.frs) with
  | some v,some f=>some (Ob.mk o.form o.n v f)
  | _,_=>none)=_
 rw [lK (by omega),aBq h3 (by omega)]
theorem TY (l:List Nat) (st:Nat × Bool):fG (wU (obF l st).1)=some (obF l st).1:=by
 have h:=GS (l:=l) (n:=(uM l (pZ l (EX l (rT l st).2).2).2).1) 42 0 [] (uM l (pZ l (EX l (rT l st).2).2).2).2 (fun f hf=>nomatch hf)
 have h1:=h.1
 rw [List.length_nil,Nat.zero_add]at h1
 exact aGr yU h1 h.2
theorem jU {l:List Fr}:(jK l).isCell=true:=by unfold jK;split<;>rfl
theorem frsA_under {n:Nat} {l:List Fr}:UnderE n (jK l):=by
 unfold jK
 split
 ·exact ⟨1,rfl⟩
 ·refine tM fun x hx=>?_
  rw [List.map_map]at hx
  obtain ⟨y,_,rfl⟩:=List.mem_map.1 hx
  refine fD fun z hz=>?_
  simp only [PE,List.mem_cons,List.not_mem_nil,or_false]at hz
  rcases hz with rfl | rfl | rfl
  ·exact ⟨1,rfl⟩
  ·exact valsA_under
  ·exact valsA_under
theorem obA_under {n:Nat} {o:Ob}:UnderE n (wU o):=fD fun x hx=>by
 simp only [List.mem_cons,List.not_mem_nil,or_false]at hx
 rcases hx with rfl | rfl | rfl | rfl
 ·exact ⟨1,rfl⟩
 ·exact ⟨1,rfl⟩
 ·exact valsA_under
 ·exact frsA_under
def iQ (s:List Nat):Option Ob:=if (obF s (0,false)).2.2=false/\gV (obF s (0,false)).1=true/\fZ (obF s (0,false)).1=s then some (obF s (0,false)).1 else none
def vC:Ob:=⟨0,0,[],[]⟩
theorem QL:wU vC=.agg [.int .i64 0,.int .i64 0,.nils,.nils]:=rfl
def CW (s:List Nat):AV:=match iQ s with
 | some o=>.tuple [wU o,.int .i64 0]
 | none=>.tuple [wU vC,.int .i64 4]
theorem TZ {o:Ob} {v:AV} (h:Und 0 v):Und 0 (.tuple [wU o,v]):=dV (aF obA_under.und (aF h aO))
end
end Go.Proofs.Ytajngkkihadgfaa
