/-
  The program of meanings: worlds as they are defined.
-/
import Derived.Test.YtginbapbkjhnjaaGreatNa
set_option linter.unusedVariables false
set_option linter.unusedSimpArgs false
namespace Go.Proofs.YtginbapbkjhnjaaGreat
open Go.Abs Go Go.Abs.TryzF
noncomputable section
set_option maxRecDepth 10000
structure RW (ns fs mm cs os ts us is uu:AV):Prop where
 ns:TSl yD ns
 fs:gB fs
 mm:dM mm
 cs:EQ cs
 os:TSl PB os
 ts:gB ts
 us:TSl GO us
 is:gB is
 uu:dM uu
abbrev rn (ns fs mm cs os ts us is uu:AV):AV:=.pf (.agg [ns,fs,mm,cs,os,ts,us,is,uu])
section
variable {ns fs mm cs os ts us is uu:AV}
theorem RW.und (h:RW ns fs mm cs os ts us is uu):UnderE 0 (rn ns fs mm cs os ts us is uu):=gX (bK fun x hx=>by
 simp at hx
 rcases hx with rfl | rfl | rfl | rfl | rfl | rfl | rfl | rfl | rfl
 ·exact (oE _ h.ns).1
 ·exact (bI _ h.fs).1
 ·exact (tu_int _ h.mm).1
 ·exact (rB _ h.cs).1
 ·exact (pN _ h.os).1
 ·exact (bI _ h.ts).1
 ·exact (mJ _ h.us).1
 ·exact (bI _ h.is).1
 ·exact (tu_int _ h.uu).1)
theorem RW.cells (h:RW ns fs mm cs os ts us is uu):ns.isCell=true/\fs.isCell=true/\mm.isCell=true/\cs.isCell=true/\os.isCell=true/\ts.isCell=true/\us.isCell=true/\is.isCell=true/\uu.isCell=true:=
 ⟨(oE _ h.ns).2,(bI _ h.fs).2,(tu_int _ h.mm).2,(rB _ h.cs).2,(pN _ h.os).2,(bI _ h.ts).2,(mJ _ h.us).2,(bI _ h.is).2,(tu_int _ h.uu).2⟩
end
section
variable {ns fs mm cs os ts us is uu:AV}
end
section
variable {ns fs mm cs os ts us is uu:AV}
def TFn (ns x:AV):Prop:=ZX x/\inR (x.fld 0).num 0 ((ns.els.length:Int)-1)=true
end
section
variable {ns fs mm cs os ts us is uu:AV}
end
end
end Go.Proofs.YtginbapbkjhnjaaGreat
