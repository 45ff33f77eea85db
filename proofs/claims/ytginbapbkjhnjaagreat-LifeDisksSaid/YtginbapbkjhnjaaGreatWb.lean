/-
  Lives: a world in new memory.
-/
import Derived.Test.YtginbapbkjhnjaaGreatTe
import Derived.Test.YtginbapbkjhnjaaGreatRl
set_option linter.unusedVariables false
set_option linter.unusedSimpArgs false
namespace Go.Proofs.YtginbapbkjhnjaaGreat
open Go.Abs Go Go.Abs.TryzF
noncomputable section
set_option maxRecDepth 10000
theorem XK {ys l:List AV} {k:Nat} (hl:ys.length=k) {x:AV} (hx:l[k]?=some x):(ys++l.drop k)[k]?=some x:=by
 have hk:=(List.getElem?_eq_some_iff.1 hx).1
 rw [List.getElem?_append_right (by omega),hl,Nat.sub_self,List.getElem?_drop]
 simpa using hx
theorem UP {ys l:List AV} {k:Nat} (hl:ys.length=k) {x y:AV} (hx:l[k]?=some x):(ys++l.drop k).set k y=(ys++[y])++l.drop (k+1):=by
 have hk:=(List.getElem?_eq_some_iff.1 hx).1
 rw [List.set_append_right _ _ (by omega),hl,Nat.sub_self,List.drop_eq_getElem_cons hk,List.set_cons_zero,List.append_assoc]
 rfl
def cpG (f:AV):AV:=.agg [f.fld 0,gG (f.fld 1),gG (f.fld 2)]
def ObN (lo n:Nat) (o:Tr AObj) (y x:AV):Prop:=∃ fr,y=.agg [x.fld 0,x.fld 1,gG (x.fld 2),fr]/\CapR 3 (fun id=>lo<=id) fr n o ((x.fld 3).els.map cpG)
def ObsN (lo n:Nat) (o:Tr AObj):List AV->List AV->Prop
 | [],[]=>True
 | y::ys,x::xs=>ObN lo n o y x/\ObsN lo n o ys xs
 | _,_=>False
theorem ObsN.len {lo n:Nat} {o:Tr AObj}:∀ {ys xs:List AV},ObsN lo n o ys xs->ys.length=xs.length
 | [],[],_=>rfl
 | [],_::_,h=>h.elim
 | _::_,[],h=>h.elim
 | _::_,_::_,h=>congrArg (·+ 1) h.2.len
theorem ObsN.keep {lo n n':Nat} {o o':Tr AObj} (hn:n<=n') (hk:∀ id,lo<=id->id<n->o'.get id=o.get id):∀ {ys xs:List AV},ObsN lo n o ys xs->ObsN lo n' o' ys xs
 | [],[],_=>trivial
 | [],_::_,h=>h.elim
 | _::_,[],h=>h.elim
 | _::_,_::_,⟨⟨fr,e,h⟩,h2⟩=>⟨⟨fr,e,h.keep hn hk⟩,h2.keep hn hk⟩
theorem ObsN.snoc {lo n:Nat} {o:Tr AObj} {y x:AV} (hx:ObN lo n o y x):∀ {ys xs:List AV},ObsN lo n o ys xs->ObsN lo n o (ys++[y]) (xs++[x])
 | [],[],_=>⟨hx,trivial⟩
 | [],_::_,h=>h.elim
 | _::_,[],h=>h.elim
 | _::_,_::_,h=>⟨h.1,h.2.snoc hx⟩
theorem ObN.cells {lo n:Nat} {o:Tr AObj} {y x:AV} (hx:PB x) (h:ObN lo n o y x):y.cells.length=4/\y.cells.all AV.isCell=true:=by
 obtain ⟨_,_,va,fr,rfl,⟨k,rfl⟩,⟨m,rfl⟩,hv,hf⟩:=hx
 obtain ⟨fr',rfl,hc⟩:=h
 have c1:=(rA _ (GN hv)).2
 have c2:=hc.cell
 refine ⟨rfl,?_⟩
 show [AV.int .i64 k,.int .i64 m,gG va,fr'].all AV.isCell=true
 simp only [List.all_cons,List.all_nil,c1,c2]
 rfl
theorem ObsN.cells {lo n:Nat} {o:Tr AObj}:∀ {ys xs:List AV},(∀ x∈xs,PB x)->ObsN lo n o ys xs->∀ y∈ys,y.cells.length=4/\y.cells.all AV.isCell=true
 | [],[],_,_,y,hy=>nomatch hy
 | [],_::_,_,h,_,_=>h.elim
 | _::_,[],_,h,_,_=>h.elim
 | _::_,_::_,hx,h,y,hy=>by
   rcases List.mem_cons.1 hy with rfl | hy
   ·exact h.1.cells (hx _ (List.mem_cons_self ..))
   ·exact h.2.cells (fun z hz=>hx z (List.mem_cons_of_mem _ hz)) y hy
theorem lH {k n:Nat} {X:Nat->Prop} {v:AV} {o:Tr AObj} {xs:List AV} (h:CapR k X v n o xs) {s:Sto} {d:Option ORes}:sC (some 1) s v d=some (.val (.int .i64 (xs.length:Nat))):=by
 rcases h with ⟨rfl,rfl⟩ | ⟨_,_,rfl,_⟩ | ⟨_,rfl,rfl,_⟩<;>rfl
def ZsR:List AV->List AV->Prop
 | [],[]=>True
 | z::zs,x::xs=>(PB z/\SV z x=true)/\ZsR zs xs
 | _,_=>False
theorem ZsR.same:∀ {zs xs:List AV},ZsR zs xs->BM zs xs=true
 | [],[],_=>rfl
 | [],_::_,h=>h.elim
 | _::_,[],h=>h.elim
 | _::_,_::_,h=>by rw [BM,h.1.2,h.2.same];rfl
theorem ZsR.all:∀ {zs xs:List AV},ZsR zs xs->∀ z∈zs,PB z
 | [],[],_,z,hz=>nomatch hz
 | [],_::_,h,_,_=>h.elim
 | _::_,[],h,_,_=>h.elim
 | _::_,_::_,h,z,hz=>by
   rcases List.mem_cons.1 hz with rfl | hz
   ·exact h.1.1
   ·exact h.2.all z hz
end
end Go.Proofs.YtginbapbkjhnjaaGreat
