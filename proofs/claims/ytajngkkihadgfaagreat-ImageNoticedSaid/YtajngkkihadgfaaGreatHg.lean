/-
  The reference of images: its reader reads lists of values.
-/
import Derived.Test.YtajngkkihadgfaaGreatHd
set_option linter.unusedVariables false
set_option linter.unusedSimpArgs false
namespace Go.Proofs.YtajngkkihadgfaaGreat
open Go.Abs Go Go.Abs.TryzF
noncomputable section
set_option maxRecDepth 10000
def sZ (l:List Nat) (n:Nat):Nat->Nat->List eK->Nat × Bool->List eK × Nat × Bool
 | 0,_,acc,st=>(acc,st)
 | k+1,i,acc,st=>if i<n/\i<=30/\st.2=false then sZ l n k (i+1) (acc++[((((sP l st).1:Nat):Int),(GG l (sP l st).2).1)]) (GG l (sP l st).2).2 else (acc,st)
def qG (l:List Nat) (st:Nat × Bool):List eK × Nat × Bool:=sZ l (uX l st).1 32 0 [] (uX l st).2
def bX (l:List eK):AV:=if l=[] then .nils else .fz (l.map eH) false
def gZ (v:eK):List AV:=[.int .i64 v.1,.int .i64 v.2]
theorem DP (l:List eK):∀ x∈l.map gZ,x.length=2:=fun x hx=>by obtain ⟨y,_,rfl⟩:=List.mem_map.1 hx;rfl
theorem aCt (l:List eK):(l.map gZ).map .agg=l.map eH:=by rw [List.map_map];rfl
def VAcc (n0 n:Nat) (o:Tr AObj) (v:AV) (l:List eK):Prop:=(l=[]/\v=.nils)∨(l≠[]/\∃ id g,v=.sl id g 0 l.length (.room 2)/\o.get id=some (aX g (l.map gZ).flatten)/\n0<=id/\id<n)
theorem VAcc.frz {n0 n low:Nat} {o:Tr AObj} {v:AV} {l:List eK} (h:VAcc n0 n o v l):Frz ⟨n,low,o⟩ n0 v (bX l):=by
 rcases h with ⟨rfl,rfl⟩ | ⟨hl,id,g,rfl,hid,h1,h2⟩
 ·exact .und _ eO
 ·rw [bX,if_neg hl,<-aCt]
  refine JB (g:=g) (k:=2) h1 (by rw [Sto.get_mk h2];exact hid) (by simp) (DP _) fun x hx y hy=>?_
  obtain ⟨z,_,rfl⟩:=List.mem_map.1 hx
  simp only [gZ,List.mem_cons,List.not_mem_nil,or_false]at hy
  rcases hy with rfl | rfl<;>exact aU
theorem zH {n low low' r n':Nat} {o o':Tr AObj} {x:AObj} {rv v:AV} (hr:r<n) (hn:n<=n') (hl:r<=low') (hx:o'.get r=some x) (ho:∀ id,id<n->id≠r->o'.get id=o.get id) (hv:Frz ⟨n',low',o'⟩ n rv v):aKk ⟨n,low,o⟩ r x v ⟨n',low',o'⟩ rv:=by
 refine ⟨hl,by rw [Sto.get_mk (by omega)];exact hx,fun id hid hne=>?_,hv⟩
 have hid':id<n:=hid
 rw [Sto.get_mk hid',Sto.get_mk (by omega)];exact ho id hid' hne
end
end Go.Proofs.YtajngkkihadgfaaGreat
/-
 The reference of images: its reader reads objects.
-/
namespace Go.Proofs.YtajngkkihadgfaaGreat
open Go.Abs Go Go.Abs.TryzF
noncomputable section
set_option maxRecDepth 10000
def frF (l:List Nat) (st:Nat × Bool):Fr × Nat × Bool:=(⟨((uX l st).1:Nat),(qG l (uX l st).2).1,(qG l (qG l (uX l st).2).2).1⟩,(qG l (qG l (uX l st).2).2).2)
def wY (l:List Nat) (n:Nat):Nat->Nat->List Fr->Nat × Bool->List Fr × Nat × Bool
 | 0,_,acc,st=>(acc,st)
 | k+1,i,acc,st=>if i<n/\i<=40/\st.2=false then wY l n k (i+1) (acc++[(frF l st).1]) (frF l st).2 else (acc,st)
def aMe (l:List Nat) (st:Nat × Bool):List Fr × Nat × Bool:=wY l (uX l st).1 42 0 [] (uX l st).2
def obF (l:List Nat) (st:Nat × Bool):Ob × Nat × Bool:=
 (⟨((sP l st).1:Nat),(GG l (sP l st).2).1,(qG l (GG l (sP l st).2).2).1,(aMe l (qG l (GG l (sP l st).2).2).2).1⟩,(aMe l (qG l (GG l (sP l st).2).2).2).2)
def PZ (f:Fr):List AV:=[.int .i64 f.node,bX f.env,bX f.vals]
def iR (l:List Fr):AV:=if l=[] then .nils else .fz ((l.map PZ).map .agg) false
def sS (o:Ob):AV:=.agg [.int .i64 o.form,.int .i64 o.n,bX o.vals,iR o.frs]
theorem kB {l:List eK} (h:l.length<=9223372036854775807):cB (bX l)=some l:=by
 refine RL ⟨?_,by simpa using h⟩
 unfold bX
 by_cases h0:l=[]
 ·subst h0;exact .inl ⟨by simp,rfl⟩
 ·rw [if_neg h0];exact .inr ⟨false,rfl⟩
theorem bQ {l:List eK}:(bX l).isCell=true:=by unfold bX;split<;>rfl
theorem valsA_under {n:Nat} {l:List eK}:UnderE n (bX l):=by
 unfold bX
 split
 ·exact ⟨1,rfl⟩
 ·refine nO fun x hx=>?_
  obtain ⟨y,_,rfl⟩:=List.mem_map.1 hx
  exact ⟨2,rfl⟩
theorem UQ (l:List Fr):∀ x∈l.map PZ,x.length=3:=fun x hx=>by obtain ⟨y,_,rfl⟩:=List.mem_map.1 hx;rfl
def FAcc (n0 n:Nat) (o:Tr AObj) (v:AV) (l:List Fr):Prop:=(l=[]/\v=.nils)∨(l≠[]/\∃ id g,v=.sl id g 0 l.length (.room 3)/\o.get id=some (aX g (l.map PZ).flatten)/\n0<=id/\id<n)
theorem FAcc.frz {n0 n low:Nat} {o:Tr AObj} {v:AV} {l:List Fr} (h:FAcc n0 n o v l):Frz ⟨n,low,o⟩ n0 v (iR l):=by
 rcases h with ⟨rfl,rfl⟩ | ⟨hl,id,g,rfl,hid,h1,h2⟩
 ·exact .und _ eO
 ·rw [iR,if_neg hl]
  refine JB (g:=g) (k:=3) h1 (by rw [Sto.get_mk h2];exact hid) (by simp) (UQ _) fun x hx y hy=>?_
  obtain ⟨z,_,rfl⟩:=List.mem_map.1 hx
  simp only [PZ,List.mem_cons,List.not_mem_nil,or_false]at hy
  rcases hy with rfl | rfl | rfl
  ·exact aU
  ·exact valsA_under.und
  ·exact valsA_under.und
section
variable {n low r:Nat} {o:Tr AObj} {l:List Nat} {st:Nat × Bool}
end
end
end Go.Proofs.YtajngkkihadgfaaGreat
/-
 The reference of images: the object of bytes.
-/
namespace Go.Proofs.YtajngkkihadgfaaGreat
open Go.Abs Go Go.Abs.TryzF
noncomputable section
set_option maxRecDepth 10000
theorem DQ {l:List Nat} {n:Nat}:∀ (k i:Nat) (acc:List eK) (st:Nat × Bool),(sZ l n k i acc st).1.length<=acc.length+k
 | 0,_,_,_=>Nat.le_refl _
 | k+1,i,acc,st=>by
   unfold sZ
   split
   ·refine Nat.le_trans (DQ k _ _ _) ?_
    rw [List.length_append,List.length_singleton];omega
   ·show acc.length<=_;omega
theorem zI {l:List Nat} {st:Nat × Bool}:(qG l st).1.length<=32:=by
 have:=DQ (l:=l) (n:=(uX l st).1) 32 0 [] (uX l st).2
 rw [List.length_nil,Nat.zero_add]at this;exact this
def HO (f:Fr):Prop:=f.env.length<=32/\f.vals.length<=32
theorem aIb {l:List Nat} {st:Nat × Bool}:HO (frF l st).1:=⟨zI,zI⟩
theorem HP {l:List Nat} {n:Nat}:∀ (k i:Nat) (acc:List Fr) (st:Nat × Bool),(∀ f∈acc,HO f)->(wY l n k i acc st).1.length<=acc.length+k/\∀ f∈(wY l n k i acc st).1,HO f
 | 0,_,_,_,h=>⟨Nat.le_refl _,h⟩
 | k+1,i,acc,st,h=>by
   unfold wY
   split
   ·have:=HP (l:=l) (n:=n) k (i+1) (acc++[(frF l st).1]) (frF l st).2 (fun f hf=>by
     rcases List.mem_append.1 hf with hf | hf
     ·exact h f hf
     ·rw [List.mem_singleton]at hf;subst hf;exact aIb)
    refine ⟨Nat.le_trans this.1 (by rw [List.length_append,List.length_singleton];omega),this.2⟩
   ·exact ⟨show acc.length<=_ by omega,h⟩
theorem uD {α:Type} {f:AV->Option α} {g:α->AV}:∀ l:List α,(∀ x∈l,f (g x)=some x)->BG f (l.map g)=some l
 | [],_=>rfl
 | x::l,h=>by simp only [List.map_cons,BG,h x (List.mem_cons_self ..),uD l fun y hy=>h y (List.mem_cons_of_mem _ hy)]
theorem aIc {f:Fr} (h:HO f):mL (.agg (PZ f))=some f:=by
 have h1:=kB (l:=f.env) (by have:=h.1;omega)
 have h2:=kB (l:=f.vals) (by have:=h.2;omega)
 show (match cB (bX f.env),cB (bX f.vals) with
  | some e,some v=>some (Fr.mk f.node e v)
  | _,_=>none)=_
 rw [h1,h2]
theorem aCu {l:List Fr} (h:∀ f∈l,HO f) (hl:l.length<=9223372036854775807):iT (iR l)=some l:=by
 unfold iR
 by_cases h0:l=[]
 ·subst h0;rfl
 ·rw [if_neg h0]
  show (if _ then _ else _)=_
  rw [if_pos (by simpa using hl),List.map_map]
  exact uD (g:=fun f=>.agg (PZ f)) l fun f hf=>aIc (h f hf)
theorem aId {o:Ob} (h1:o.vals.length<=32) (h2:o.frs.length<=42) (h3:∀ f∈o.frs,HO f):eD (sS o)=some o:=by
 show (match cB (bX o.vals),iT (iR o.frs) with
  | some v,some f=>some (Ob.mk o.form o.n v f)
  | _,_=>none)=_
 rw [kB (by omega),aCu h3 (by omega)]
theorem UR (l:List Nat) (st:Nat × Bool):eD (sS (obF l st).1)=some (obF l st).1:=by
 have h:=HP (l:=l) (n:=(uX l (qG l (GG l (sP l st).2).2).2).1) 42 0 [] (uX l (qG l (GG l (sP l st).2).2).2).2 (fun f hf=>nomatch hf)
 have h1:=h.1
 rw [List.length_nil,Nat.zero_add]at h1
 exact aId zI h1 h.2
theorem fN {l:List Fr}:(iR l).isCell=true:=by unfold iR;split<;>rfl
theorem frsA_under {n:Nat} {l:List Fr}:UnderE n (iR l):=by
 unfold iR
 split
 ·exact ⟨1,rfl⟩
 ·refine nO fun x hx=>?_
  rw [List.map_map]at hx
  obtain ⟨y,_,rfl⟩:=List.mem_map.1 hx
  refine eB fun z hz=>?_
  simp only [PZ,List.mem_cons,List.not_mem_nil,or_false]at hz
  rcases hz with rfl | rfl | rfl
  ·exact ⟨1,rfl⟩
  ·exact valsA_under
  ·exact valsA_under
theorem obA_under {n:Nat} {o:Ob}:UnderE n (sS o):=eB fun x hx=>by
 simp only [List.mem_cons,List.not_mem_nil,or_false]at hx
 rcases hx with rfl | rfl | rfl | rfl
 ·exact ⟨1,rfl⟩
 ·exact ⟨1,rfl⟩
 ·exact valsA_under
 ·exact frsA_under
def hG (s:List Nat):Option Ob:=if (obF s (0,false)).2.2=false/\iS (obF s (0,false)).1=true/\lJ (obF s (0,false)).1=s then some (obF s (0,false)).1 else none
def pS:Ob:=⟨0,0,[],[]⟩
theorem RK:sS pS=.agg [.int .i64 0,.int .i64 0,.nils,.nils]:=rfl
def DR (s:List Nat):AV:=match hG s with
 | some o=>.tuple [sS o,.int .i64 0]
 | none=>.tuple [sS pS,.int .i64 4]
theorem US {o:Ob} {v:AV} (h:Und 0 v):Und 0 (.tuple [sS o,v]):=dH (aE obA_under.und (aE h aH))
end
end Go.Proofs.YtajngkkihadgfaaGreat
