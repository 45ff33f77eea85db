/-
  The references of worlds and points: what is small.
-/
import Derived.Test.YtginbapbkjhnjaaGreatOf
set_option linter.unusedVariables false
set_option linter.unusedSimpArgs false
namespace Go.Proofs.YtginbapbkjhnjaaGreat
open Go.Abs Go Go.Abs.TryzF
noncomputable section
set_option maxRecDepth 10000
def wg (os ts us is no:AV):AV:=.agg [os,ts,us,is,no]
structure WG (os ts us is no:AV):Prop where
 os:TSl PB os
 ts:gB ts
 us:TSl GO us
 is:gB is
 no:dM no
section
variable {os ts us is no:AV}
theorem WG.wd (h:WG os ts us is no):ZY (wg os ts us is no):=⟨_,_,_,_,_,rfl,h.os,h.ts,h.us,h.is,h.no⟩
theorem WG.cells (h:WG os ts us is no):os.isCell=true/\ts.isCell=true/\us.isCell=true/\is.isCell=true/\no.isCell=true:=⟨(pN _ h.os).2,(bI _ h.ts).2,(mJ _ h.us).2,(bI _ h.is).2,(tu_int _ h.no).2⟩
theorem WG.und (h:WG os ts us is no):UnderE 0 (wg os ts us is no):=(XU _ h.wd).1
end
abbrev BT:=TSl yJ
theorem oC:Tu BT:=iO (vO EW)
def ZK (os ts us is no os' ts' us' is' no' d g:AV):AV:=.agg [os,ts,us,is,no,os',ts',us',is',no',d,g]
structure SG (os ts us is no os' ts' us' is' no' d g:AV):Prop where
 w:WG os ts us is no
 s:WG os' ts' us' is' no'
 d:BT d
 g:BT g
section
variable {os ts us is no os' ts' us' is' no' d g:AV}
theorem SG.cells (h:SG os ts us is no os' ts' us' is' no' d g):d.isCell=true/\g.isCell=true:=⟨(oC _ h.d).2,(oC _ h.g).2⟩
theorem SG.und (h:SG os ts us is no os' ts' us' is' no' d g):UnderE 0 (ZK os ts us is no os' ts' us' is' no' d g):=by
 refine bK fun x hx=>?_
 simp only [List.mem_cons,List.not_mem_nil,or_false]at hx
 rcases hx with rfl | rfl | rfl | rfl | rfl | rfl | rfl | rfl | rfl | rfl | rfl | rfl
 ·exact (pN _ h.w.os).1
 ·exact (bI _ h.w.ts).1
 ·exact (mJ _ h.w.us).1
 ·exact (bI _ h.w.is).1
 ·exact (tu_int _ h.w.no).1
 ·exact (pN _ h.s.os).1
 ·exact (bI _ h.s.ts).1
 ·exact (mJ _ h.s.us).1
 ·exact (bI _ h.s.is).1
 ·exact (tu_int _ h.s.no).1
 ·exact (oC _ h.d).1
 ·exact (oC _ h.g).1
end
def XN (v:AV):Int × Int:=((v.fld 0).num,(v.fld 1).num)
def LG (a b:List AV):Bool:=decide (a.map XN=b.map XN)
def XO (f g:AV):Bool:=decide ((f.fld 0).num=(g.fld 0).num)&&(LG (f.fld 1).els (g.fld 1).els&&LG (f.fld 2).els (g.fld 2).els)
def LH:List AV->List AV->Bool
 | [],[]=>true
 | f::l,g::m=>XO f g&&LH l m
 | _,_=>false
def SV (a b:AV):Bool:=decide ((a.fld 0).num=(b.fld 0).num)&&(decide ((a.fld 1).num=(b.fld 1).num)&&(LG (a.fld 2).els (b.fld 2).els&&LH (a.fld 3).els (b.fld 3).els))
end
end Go.Proofs.YtginbapbkjhnjaaGreat
