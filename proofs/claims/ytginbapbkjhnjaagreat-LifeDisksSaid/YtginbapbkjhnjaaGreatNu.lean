/-
  The program of programs: names of constructors, and whether they differ.
-/
import Derived.Test.YtginbapbkjhnjaaGreatNq
set_option linter.unusedVariables false
set_option linter.unusedSimpArgs false
namespace Go.Abs
noncomputable section
def AccV (v:AV) (n:Nat) (o:Tr AObj) (l:List AV):Prop:=(l=[]/\v=.nils)∨(l≠[]/\∃ id g,v=.sl id g 0 l.length (.room 1)/\o.get id=some (aT g l)/\id<n)
theorem AccV.new {n id g m:Nat} {o:Tr AObj} {l:List AV} (h2:o.get id=some (aT g l)) (hm:m=l.length) (hl:l≠[]) (hk:id<n):AccV (.sl id g 0 m (.room 1)) n o l:=.inr ⟨hl,id,g,by rw [hm],h2,hk⟩
def EP (l:List AV):AV:=if l.length=0 then .nils else .fz l false
open Classical in
end
end Go.Abs
namespace Go.Proofs.YtginbapbkjhnjaaGreat
open Go.Abs Go Go.Abs.TryzF
noncomputable section
set_option maxRecDepth 10000
abbrev eE:=TSl lA
end
end Go.Proofs.YtginbapbkjhnjaaGreat
/-
 The program of programs: what the Kids of a node must be.
-/
namespace Go.Abs
noncomputable section
variable {P:Program} {O:Orc}
theorem oD {name:String} {recv r:AV} {args:List AV} {s:Sto} {f:FuncId} {K:CRes->Prop} (ht:fZ P s (.func (.method name) [recv] []) args=some (.fn f (r::args))) (ho:O f (r::args) s=none)
 (h:Wcall P O (.func (.func f) [] []) (r::args) s K):Wcall P O (.func (.method name) [recv] []) args s K:=by
 obtain ⟨n,res,rr,h1,h2⟩:=h
 cases n with
 | zero=>cases h1
 | succ n=>
   refine ⟨n+1,res,rr,?_,h2⟩
   have e1:xK O (.func (.func f) [] []) (r::args) s .no=none:=by
    show O f ([]++(r::args)++[]) s=none
    simpa using ho
   have e2:xK O (.func (.method name) [recv] []) args s .no=none:=rfl
   simp only [aH,e1,fZ]at h1
   simp only [aH,e2,ht]
   simpa using h1
theorem lK:xO .nilIface=.nili:=rfl
theorem rW {x:Operand} {name:String} {args:Array Operand} {ts:Array TypeId} {e:Env} {K:ORes->Prop}:dA P O (.call {callee:=.invoke x name,args:=args,argTypes:=ts}) e K↔Wcall P O (.func (.method name) [e.eval x] []) (args.toList.map e.eval) e.s (lT e.s K):=by
 have hd:∀ n,fC P (aH P O n) (.call {callee:=.invoke x name,args:=args,argTypes:=ts}) e=dI e.s (aH P O n (.func (.method name) [e.eval x] []) (args.toList.map e.eval) e.s .no):=fun _=>rfl
 constructor
 ·rintro ⟨n,r,h1,h2⟩
  rw [hd]at h1
  cases hc:aH P O n (.func (.method name) [e.eval x] []) (args.toList.map e.eval) e.s .no with
  | none=>rw [hc]at h1;cases h1
  | some y=>
    obtain ⟨res,rr⟩:=y
    rw [hc]at h1
    refine ⟨n,res,rr,hc,?_⟩
    cases res with
    | ret v so=>cases so<;>(simp only [dI]at h1;cases h1;exact h2)
    | pan v so=>cases so<;>(simp only [dI]at h1;cases h1;exact h2)
 ·rintro ⟨n,res,rr,hc,h2⟩
  cases res with
  | ret v so=>cases so with
    | none=>exact ⟨n,_,by rw [hd,hc];rfl,h2⟩
    | some s'=>exact ⟨n,_,by rw [hd,hc];rfl,h2⟩
  | pan v so=>cases so with
    | none=>exact ⟨n,_,by rw [hd,hc];rfl,h2⟩
    | some s'=>exact ⟨n,_,by rw [hd,hc];rfl,h2⟩
end
end Go.Abs
namespace Go.Proofs.YtginbapbkjhnjaaGreat
open Go.Abs Go Go.Abs.TryzF
noncomputable section
set_option maxRecDepth 10000
inductive KidsK
 | fixed (k:Int)
 | con
 | mat
 | none
section
variable {ns fs mm cs ki pa:AV} {op n:Int}
structure PG (ns fs mm cs:AV):Prop where
 ns:TSl yD ns
 fs:gB fs
 mm:dM mm
 cs:EQ cs
theorem PG.cells (h:PG ns fs mm cs):ns.isCell=true/\fs.isCell=true/\mm.isCell=true/\cs.isCell=true:=⟨(oE _ h.ns).2,(bI _ h.fs).2,(tu_int _ h.mm).2,(rB _ h.cs).2⟩
theorem PG.und (h:PG ns fs mm cs):UnderE 0 (pg ns fs mm cs):=(EU _ ⟨_,_,_,_,rfl,h.ns,h.fs,h.mm,h.cs⟩).1
end
end
end Go.Proofs.YtginbapbkjhnjaaGreat
