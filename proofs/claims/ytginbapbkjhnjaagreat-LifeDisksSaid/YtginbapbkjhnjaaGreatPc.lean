/-
  Worlds: whether objects are alike.
-/
import Derived.Test.YtginbapbkjhnjaaGreatPa
set_option linter.unusedVariables false
set_option linter.unusedSimpArgs false
namespace Go.Proofs.YtginbapbkjhnjaaGreat
open Go.Abs Go Go.Abs.TryzF
noncomputable section
set_option maxRecDepth 10000
end
end Go.Proofs.YtginbapbkjhnjaaGreat
/-
 Worlds: copies of values and of frames.
-/
namespace Go.Abs
noncomputable section
def AccM (k lo:Nat) (v:AV) (n:Nat) (o:Tr AObj) (R:List (List AV)):Prop:=(R=[]/\v=.nils)∨(R≠[]/\∃ id g,v=.sl id g 0 R.length (.room k)/\o.get id=some (aT g R.flatten)/\id<n/\lo<=id)
theorem AccM.new {k lo n id g m:Nat} {o:Tr AObj} {R:List (List AV)} (h2:o.get id=some (aT g R.flatten)) (hm:m=R.length) (hl:R≠[]) (hk:id<n) (hlo:lo<=id):AccM k lo (.sl id g 0 m (.room k)) n o R:=.inr ⟨hl,id,g,by rw [hm],h2,hk,hlo⟩
end
end Go.Abs
namespace Go.Proofs.YtginbapbkjhnjaaGreat
open Go.Abs Go Go.Abs.TryzF
noncomputable section
set_option maxRecDepth 10000
theorem LD {k:Nat} {T:AV->Prop} (hT:Tk k T) {xs:List AV} (hx:∀ x∈xs,T x):(xs.map AV.cells).map AV.agg=xs:=by
 rw [List.map_map]
 conv=>rhs;rw [<-List.map_id xs]
 refine List.map_congr_left fun x hm=>?_
 obtain ⟨_,cs,rfl,_⟩:=hT x (hx x hm)
 rfl
theorem LE {k:Nat} {T:AV->Prop} (hT:Tk k T) {xs:List AV} (hx:∀ x∈xs,T x):∀ y∈xs.map AV.cells,y.length=k:=fun y hy=>by
 obtain ⟨x,hm,rfl⟩:=List.mem_map.1 hy
 exact hT.len (hx x hm)
theorem BS {l:List AV} (h:UnderE 0 (.agg l)):∀ y∈l,Und 0 y:=fun y hy=>by
 obtain ⟨d,hd⟩:=h
 cases d with
 | zero=>simp [AV.under]at hd
 | succ d=>exact UnderE.und (n:=0) ⟨d,List.all_eq_true.1 hd y hy⟩
theorem LF {k:Nat} {T:AV->Prop} (hT:Tk k T) {xs:List AV} (hx:∀ x∈xs,T x):∀ y∈xs.map AV.cells,∀ z∈y,Und 0 z:=fun y hy=>by
 obtain ⟨x,hm,rfl⟩:=List.mem_map.1 hy
 obtain ⟨hu,cs,rfl,_⟩:=hT x (hx x hm)
 exact BS hu
def cpF (f:AV):AV:=.agg [f.fld 0,EP (f.fld 1).els,EP (f.fld 2).els]
def cpO (o:AV):AV:=.agg [o.fld 0,o.fld 1,EP (o.fld 2).els,EP ((o.fld 3).els.map cpF)]
def SmF (f:AV):Prop:=(f.fld 1).els.length<=1000/\(f.fld 2).els.length<=1000
def SmO (o:AV):Prop:=(o.fld 2).els.length<=1000/\(o.fld 3).els.length<=1000/\∀ f∈(o.fld 3).els,SmF f
end
end Go.Proofs.YtginbapbkjhnjaaGreat
