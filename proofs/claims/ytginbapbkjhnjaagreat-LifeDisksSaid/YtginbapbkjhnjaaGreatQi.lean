/-
  Points: what is done when a state is given up with.
-/
import Derived.Test.YtginbapbkjhnjaaGreatQe
import Derived.Test.YtginbapbkjhnjaaGreatEt
import Derived.Test.YtginbapbkjhnjaaGreatQh
import Derived.Test.YtginbapbkjhnjaaGreatPa
import Derived.Test.YtginbapbkjhnjaaGreatEz
import Derived.Test.YtginbapbkjhnjaaGreatOh
set_option linter.unusedVariables false
set_option linter.unusedSimpArgs false
namespace Go.Proofs.YtginbapbkjhnjaaGreat
open Go.Abs Go Go.Abs.TryzF
noncomputable section
set_option maxRecDepth 10000
end
end Go.Proofs.YtginbapbkjhnjaaGreat
/-
 Points: opening a state.
-/
namespace Go.Proofs.YtginbapbkjhnjaaGreat
open Go.Abs Go Go.Abs.TryzF
noncomputable section
set_option maxRecDepth 10000
def OpenAt (lo:Nat) (s:Sto) (id:Nat) (ns fs mm cs ts us is no ts' us' is' no':AV) (xo xo' xd xg:List AV):Prop:=∃ os os' d g a b c,s.get id=some (aT 0 (pst os (gG ts) (gG us) (gG is) no ns fs mm cs os' (gG ts') (gG us') (gG is') no' d g))/\
 StN lo a s os (xo.map cpO)/\StN a b s os' (xo'.map cpO)/\StN b c s d xd/\StN c id s g xg/\lo<=a/\a<=b/\b<=c/\c<=id
theorem OpenAt.sim {lo:Nat} {s s':Sto} {id:Nat} {ns fs mm cs ts us is no ts' us' is' no':AV} {xo xo' xd xg:List AV} (h:OpenAt lo s id ns fs mm cs ts us is no ts' us' is' no' xo xo' xd xg) (hs:Sim s s'):OpenAt lo s' id ns fs mm cs ts us is no ts' us' is' no' xo xo' xd xg:=by
 obtain ⟨os,os',d,g,a,b,c,h1,h2,h3,h4,h5,h6⟩:=h
 exact ⟨os,os',d,g,a,b,c,hs.get h1,h2.sim hs,h3.sim hs,h4.sim hs,h5.sim hs,h6⟩
section
variable {p os ts us is no os' ts' us' is' no' d g:AV}
end
section
variable {p os ts us is no os' ts' us' is' no' d g:AV}
structure PS (p os ts us is no os' ts' us' is' no' d g:AV):Prop where
 hp:LK p
 hm:SmP p
 hs:SGL os ts us is no os' ts' us' is' no' d g
 hso:∀ o∈os.els,SmO o
 hso':∀ o∈os'.els,SmO o
theorem PS.und (h:PS p os ts us is no os' ts' us' is' no' d g):∀ x∈[p,ZK os ts us is no os' ts' us' is' no' d g],Und 0 x:=aB (EU p h.hp).1.und (aB h.hs.und.und aI)
end
section
variable {p os ts us is no os' ts' us' is' no' d g:AV}
end
end
end Go.Proofs.YtginbapbkjhnjaaGreat
/-
 Arguments of laws: programs,worlds and states,by their types.
-/
namespace Go.Abs
noncomputable section
variable {P:Program}
def yB (P:Program) (t:TypeId) (T:AV->Prop):Prop:=∀ d xs,dT P d t xs->∃ a,xs=[a]/\T a
def XL (P:Program) (k:Nat) (t:TypeId) (T:AV->Prop):Prop:=∀ d xs,dT P d t xs->xs.length=k->T (.agg xs)
theorem QE {t:TypeId} (hu:P.underlying t=some (.int .i64)):yB P t dM:=fun d xs h=>by
 cases d with
 | zero=>exact h.elim
 | succ d=>obtain ⟨n,rfl,_⟩:=GV hu h;exact ⟨_,rfl,n,rfl⟩
theorem LA {t:TypeId} (hu:P.underlying t=some .bool):yB P t yJ:=fun d xs h=>by
 cases d with
 | zero=>exact h.elim
 | succ d=>obtain ⟨b,rfl⟩:=BY hu h;exact ⟨_,rfl,b,rfl⟩
theorem QF {t:TypeId} (hu:P.underlying t=some .string):yB P t lA:=fun d xs h=>by
 cases d with
 | zero=>exact h.elim
 | succ d=>obtain ⟨l,rfl,h1,h2⟩:=GW hu h;exact ⟨_,rfl,l,rfl,h1,h2⟩
theorem BN {t e:TypeId} {T:AV->Prop} (hu:P.underlying t=some (.slice e)) (hk:tyK P e=some none) (he:yB P e T):yB P t (TSl T):=fun d xs h=>by
 cases d with
 | zero=>exact h.elim
 | succ d=>
   obtain ⟨a,ys,rfl,hs,hy⟩:=qI (f:=id) (p:=T) hu hk (fun x h1 _ _=>by obtain ⟨a,rfl,ha⟩:=he _ _ h1;exact ⟨a,rfl,ha⟩) h
   exact ⟨a,rfl,ys,by rw [List.map_id]at hs;exact hs,hy⟩
theorem EO {t e:TypeId} {k:Nat} {T:AV->Prop} (hu:P.underlying t=some (.slice e)) (hk:tyK P e=some (some k)) (he:XL P k e T):yB P t (TSl T):=fun d xs h=>by
 cases d with
 | zero=>exact h.elim
 | succ d=>
   obtain ⟨a,ys,rfl,hs,hy⟩:=qI (f:=id) (p:=T) hu hk (fun x h1 h2 _=>⟨.agg x,rfl,he _ _ h1 h2⟩) h
   exact ⟨a,rfl,ys,by rw [List.map_id]at hs;exact hs,hy⟩
theorem XM {t a b c:TypeId} {A B C:AV->Prop} (hf:FC P t=some [(a,some none,0),(b,some none,1),(c,some none,2)]) (ha:yB P a A) (hb:yB P b B) (hc:yB P c C):XL P 3 t (T3 A B C):=fun d xs h hl=>by
 cases d with
 | zero=>exact h.elim
 | succ d=>
   have hs:=oI hf h
   match xs,hl with
   | [x,y,z],_=>
     obtain ⟨k1,e1,h1⟩:=hs _ (List.mem_cons_self ..)
     obtain ⟨k2,e2,h2⟩:=hs _ (List.mem_cons_of_mem _ (List.mem_cons_self ..))
     obtain ⟨k3,e3,h3⟩:=hs _ (List.mem_cons_of_mem _ (List.mem_cons_of_mem _ (List.mem_cons_self ..)))
     cases e1;cases e2;cases e3
     obtain ⟨_,q1,w1⟩:=ha _ _ h1
     obtain ⟨_,q2,w2⟩:=hb _ _ h2
     obtain ⟨_,q3,w3⟩:=hc _ _ h3
     cases q1;cases q2;cases q3
     exact ⟨_,_,_,rfl,w1,w2,w3⟩
end
end Go.Abs
namespace Go.Proofs.YtginbapbkjhnjaaGreat
open Go.Abs Go Go.Abs.TryzF
noncomputable section
set_option maxRecDepth 10000
theorem LB:yB Tryz.prog 3 dM:=QE (by kernel_rfl)
theorem UQ:yB Tryz.prog 4 yJ:=LA (by kernel_rfl)
theorem ST:yB Tryz.prog 9 lA:=QF (by kernel_rfl)
theorem UR:yB Tryz.prog 28 gB:=BN (by kernel_rfl) (by kernel_rfl) LB
section
variable {p os ts us is no os' ts' us' is' no' d g:AV}
def US (a:AV):Prop:=∃ os ts us is no os' ts' us' is' no' d g,a=ZK os ts us is no os' ts' us' is' no' d g/\SG os ts us is no os' ts' us' is' no' d g
end
end
end Go.Proofs.YtginbapbkjhnjaaGreat
