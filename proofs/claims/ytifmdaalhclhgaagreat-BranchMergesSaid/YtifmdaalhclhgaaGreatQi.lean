/-
  Points: what is done when a state is given up with.
-/
import Derived.Test.YtifmdaalhclhgaaGreatQe
import Derived.Test.YtifmdaalhclhgaaGreatEt
import Derived.Test.YtifmdaalhclhgaaGreatQh
import Derived.Test.YtifmdaalhclhgaaGreatPa
import Derived.Test.YtifmdaalhclhgaaGreatEz
import Derived.Test.YtifmdaalhclhgaaGreatOh
set_option linter.unusedVariables false
set_option linter.unusedSimpArgs false
namespace Go.Proofs.YtifmdaalhclhgaaGreat
open Go.Abs Go Go.Abs.TryzF
noncomputable section
set_option maxRecDepth 10000
end
end Go.Proofs.YtifmdaalhclhgaaGreat
/-
 Points: opening a state.
-/
namespace Go.Proofs.YtifmdaalhclhgaaGreat
open Go.Abs Go Go.Abs.TryzF
noncomputable section
set_option maxRecDepth 10000
def OpenAt (lo:Nat) (s:Sto) (id:Nat) (ns fs mm cs ts us is no ts' us' is' no':AV) (xo xo' xd xg:List AV):Prop:=∃ os os' d g a b c,s.get id=some (aY 0 (pst os (fT ts) (fT us) (fT is) no ns fs mm cs os' (fT ts') (fT us') (fT is') no' d g))/\
 StN lo a s os (xo.map cV)/\StN a b s os' (xo'.map cV)/\StN b c s d xd/\StN c id s g xg/\lo<=a/\a<=b/\b<=c/\c<=id
theorem OpenAt.sim {lo:Nat} {s s':Sto} {id:Nat} {ns fs mm cs ts us is no ts' us' is' no':AV} {xo xo' xd xg:List AV} (h:OpenAt lo s id ns fs mm cs ts us is no ts' us' is' no' xo xo' xd xg) (hs:Sim s s'):OpenAt lo s' id ns fs mm cs ts us is no ts' us' is' no' xo xo' xd xg:=by
 obtain ⟨os,os',d,g,a,b,c,h1,h2,h3,h4,h5,h6⟩:=h;exact ⟨os,os',d,g,a,b,c,hs.get h1,h2.sim hs,h3.sim hs,h4.sim hs,h5.sim hs,h6⟩
section
variable {p os ts us is no os' ts' us' is' no' d g:AV}
end
section
variable {p os ts us is no os' ts' us' is' no' d g:AV}
structure PS (p os ts us is no os' ts' us' is' no' d g:AV):Prop where
 hp:fY p
 hm:SmP p
 hs:SGL os ts us is no os' ts' us' is' no' d g
 hso:∀ o∈os.els,rI o
 hso':∀ o∈os'.els,rI o
theorem PS.und (h:PS p os ts us is no os' ts' us' is' no' d g):∀ x∈[p,stg os ts us is no os' ts' us' is' no' d g],Und 0 x:=aA (dM p h.hp).1.und (aA h.hs.und.und aC)
end
theorem bF (l:List AV):(aM l).els=l:=by
 unfold aM;split
 ·rename_i h;rw [List.length_eq_zero_iff.1 h];rfl
 ·rfl
theorem aIy (f:AV):(wX f).fld 0=f.fld 0/\((wX f).fld 1).els=(f.fld 1).els/\((wX f).fld 2).els=(f.fld 2).els:=⟨rfl,bF _,bF _⟩
theorem VB (o:AV):(cV o).fld 0=o.fld 0/\(cV o).fld 1=o.fld 1/\((cV o).fld 2).els=(o.fld 2).els/\((cV o).fld 3).els=(o.fld 3).els.map wX:=⟨rfl,rfl,bF _,bF _⟩
theorem aIz (f g:AV):qU (wX f) g=qU f g:=by
 obtain ⟨h1,h2,h3⟩:=aIy f;rw [qU,qU,h1,h2,h3]
theorem ME:∀ (a b:List AV),eD (a.map wX) b=eD a b
 | [],[]=>rfl
 | [],_::_=>rfl
 | _::_,[]=>rfl
 | x::a,y::b=>by rw [List.map_cons,eD,eD,aIz,ME a b]
theorem aJa (a b:AV):dU (cV a) b=dU a b:=by
 obtain ⟨h1,h2,h3,h4⟩:=VB a;rw [dU,dU,h1,h2,h3,h4,ME]
section
variable {p os ts us is no os' ts' us' is' no' d g:AV}
end
end
end Go.Proofs.YtifmdaalhclhgaaGreat
/-
 Arguments of laws: programs,worlds and states,by their types.
-/
namespace Go.Abs
noncomputable section
variable {P:Program}
def wU (P:Program) (t:TypeId) (T:AV->Prop):Prop:=∀ d xs,gA P d t xs->∃ a,xs=[a]/\T a
def VC (P:Program) (k:Nat) (t:TypeId) (T:AV->Prop):Prop:=∀ d xs,gA P d t xs->xs.length=k->T (.agg xs)
theorem wV {t:TypeId} (hu:P.underlying t=some (.int .i64)):wU P t cA:=fun d xs h=>by
 cases d with
 | zero=>exact h.elim
 | succ d=>obtain ⟨n,rfl,_⟩:=YU hu h;exact ⟨_,rfl,n,rfl⟩
theorem aJb {t:TypeId} (hu:P.underlying t=some .string):wU P t rC:=fun d xs h=>by
 cases d with
 | zero=>exact h.elim
 | succ d=>obtain ⟨l,rfl,h1,h2⟩:=YV hu h;exact ⟨_,rfl,l,rfl,h1,h2⟩
theorem aOq {t e:TypeId} {T:AV->Prop} (hu:P.underlying t=some (.slice e)) (hk:tyK P e=some none) (he:wU P e T):wU P t (TSl T):=fun d xs h=>by
 cases d with
 | zero=>exact h.elim
 | succ d=>
   obtain ⟨a,ys,rfl,hs,hy⟩:=sI (f:=id) (p:=T) hu hk (fun x h1 _ _=>by obtain ⟨a,rfl,ha⟩:=he _ _ h1;exact ⟨a,rfl,ha⟩) h;exact ⟨a,rfl,ys,by rw [List.map_id]at hs;exact hs,hy⟩
theorem pR {t e:TypeId} {k:Nat} {T:AV->Prop} (hu:P.underlying t=some (.slice e)) (hk:tyK P e=some (some k)) (he:VC P k e T):wU P t (TSl T):=fun d xs h=>by
 cases d with
 | zero=>exact h.elim
 | succ d=>
   obtain ⟨a,ys,rfl,hs,hy⟩:=sI (f:=id) (p:=T) hu hk (fun x h1 h2 _=>⟨.agg x,rfl,he _ _ h1 h2⟩) h;exact ⟨a,rfl,ys,by rw [List.map_id]at hs;exact hs,hy⟩
theorem aOr {t a b:TypeId} {A B:AV->Prop} (hf:DS P t=some [(a,some none,0),(b,some none,1)]) (ha:wU P a A) (hb:wU P b B):VC P 2 t (T2 A B):=fun d xs h hl=>by
 cases d with
 | zero=>exact h.elim
 | succ d=>
   have hs:=jE hf h
   match xs,hl with
   | [x,y],_=>
     obtain ⟨k1,e1,h1⟩:=hs _ (List.mem_cons_self ..);obtain ⟨k2,e2,h2⟩:=hs _ (List.mem_cons_of_mem _ (List.mem_cons_self ..));cases e1;cases e2;obtain ⟨_,q1,w1⟩:=ha _ _ h1;obtain ⟨_,q2,w2⟩:=hb _ _ h2;cases q1;cases q2;exact ⟨_,_,rfl,w1,w2⟩
theorem aUs {t a b c:TypeId} {A B C:AV->Prop} (hf:DS P t=some [(a,some none,0),(b,some none,1),(c,some none,2)]) (ha:wU P a A) (hb:wU P b B) (hc:wU P c C):VC P 3 t (T3 A B C):=fun d xs h hl=>by
 cases d with
 | zero=>exact h.elim
 | succ d=>
   have hs:=jE hf h
   match xs,hl with
   | [x,y,z],_=>
     obtain ⟨k1,e1,h1⟩:=hs _ (List.mem_cons_self ..);obtain ⟨k2,e2,h2⟩:=hs _ (List.mem_cons_of_mem _ (List.mem_cons_self ..));obtain ⟨k3,e3,h3⟩:=hs _ (List.mem_cons_of_mem _ (List.mem_cons_of_mem _ (List.mem_cons_self ..)));cases e1;cases e2;cases e3;obtain ⟨_,q1,w1⟩:=ha _ _ h1;obtain ⟨_,q2,w2⟩:=hb _ _ h2;obtain ⟨_,q3,w3⟩:=hc _ _ h3;cases q1;cases q2;cases q3;exact ⟨_,_,_,rfl,w1,w2,w3⟩
theorem aOs {t a b c e:TypeId} {A B C E:AV->Prop} (hf:DS P t=some [(a,some none,0),(b,some none,1),(c,some none,2),(e,some none,3)]) (ha:wU P a A) (hb:wU P b B) (hc:wU P c C) (he:wU P e E):VC P 4 t (T4 A B C E):=fun d xs h hl=>by
 cases d with
 | zero=>exact h.elim
 | succ d=>
   have hs:=jE hf h
   match xs,hl with
   | [x,y,z,u],_=>
     obtain ⟨k1,e1,h1⟩:=hs _ (List.mem_cons_self ..);obtain ⟨k2,e2,h2⟩:=hs _ (List.mem_cons_of_mem _ (List.mem_cons_self ..));obtain ⟨k3,e3,h3⟩:=hs _ (List.mem_cons_of_mem _ (List.mem_cons_of_mem _ (List.mem_cons_self ..)));obtain ⟨k4,e4,h4⟩:=hs _ (List.mem_cons_of_mem _ (List.mem_cons_of_mem _ (List.mem_cons_of_mem _ (List.mem_cons_self ..))));cases e1;cases e2;cases e3;cases e4;obtain ⟨_,q1,w1⟩:=ha _ _ h1;obtain ⟨_,q2,w2⟩:=hb _ _ h2;obtain ⟨_,q3,w3⟩:=hc _ _ h3;obtain ⟨_,q4,w4⟩:=he _ _ h4;cases q1;cases q2;cases q3;cases q4;exact ⟨_,_,_,_,rfl,w1,w2,w3,w4⟩
theorem aUt {t a b c e f:TypeId} {A B C E F:AV->Prop} (hf:DS P t=some [(a,some none,0),(b,some none,1),(c,some none,2),(e,some none,3),(f,some none,4)]) (ha:wU P a A) (hb:wU P b B) (hc:wU P c C) (he:wU P e E) (hff:wU P f F):VC P 5 t (T5 A B C E F):=fun d xs h hl=>by
 cases d with
 | zero=>exact h.elim
 | succ d=>
   have hs:=jE hf h
   match xs,hl with
   | [x,y,z,u,v],_=>
     obtain ⟨k1,e1,h1⟩:=hs _ (List.mem_cons_self ..);obtain ⟨k2,e2,h2⟩:=hs _ (List.mem_cons_of_mem _ (List.mem_cons_self ..));obtain ⟨k3,e3,h3⟩:=hs _ (List.mem_cons_of_mem _ (List.mem_cons_of_mem _ (List.mem_cons_self ..)));obtain ⟨k4,e4,h4⟩:=hs _ (List.mem_cons_of_mem _ (List.mem_cons_of_mem _ (List.mem_cons_of_mem _ (List.mem_cons_self ..))));obtain ⟨k5,e5,h5⟩:=hs _ (List.mem_cons_of_mem _ (List.mem_cons_of_mem _ (List.mem_cons_of_mem _ (List.mem_cons_of_mem _ (List.mem_cons_self ..)))));cases e1;cases e2;cases e3;cases e4;cases e5;obtain ⟨_,q1,w1⟩:=ha _ _ h1;obtain ⟨_,q2,w2⟩:=hb _ _ h2;obtain ⟨_,q3,w3⟩:=hc _ _ h3;obtain ⟨_,q4,w4⟩:=he _ _ h4;obtain ⟨_,q5,w5⟩:=hff _ _ h5;cases q1;cases q2;cases q3;cases q4;cases q5;exact ⟨_,_,_,_,_,rfl,w1,w2,w3,w4,w5⟩
end
end Go.Abs
namespace Go.Proofs.YtifmdaalhclhgaaGreat
open Go.Abs Go Go.Abs.TryzF
noncomputable section
set_option maxRecDepth 10000
theorem rR:wU Tryz.prog 3 cA:=wV (by kernel_rfl)
theorem aNb:wU Tryz.prog 9 rC:=aJb (by kernel_rfl)
theorem IA:wU Tryz.prog 23 dE:=aOq (by kernel_rfl) (by kernel_rfl) rR
theorem aSb:VC Tryz.prog 2 67 oD:=aOr (a:=65) (b:=3) (by kernel_rfl) (wV (by kernel_rfl)) rR
theorem QX:wU Tryz.prog 73 dN:=pR (by kernel_rfl) (by kernel_rfl) aSb
theorem aUu:VC Tryz.prog 3 109 PY:=aUs (a:=3) (b:=73) (c:=73) (by kernel_rfl) rR QX QX
theorem aSc:wU Tryz.prog 74 uO:=pR (by kernel_rfl) (by kernel_rfl) aUu
theorem aUv:VC Tryz.prog 4 76 fX:=aOs (a:=72) (b:=3) (c:=73) (e:=74) (by kernel_rfl) (wV (by kernel_rfl)) rR QX aSc
theorem aSd:wU Tryz.prog 27 (TSl fX):=pR (by kernel_rfl) (by kernel_rfl) aUv
theorem aSe:VC Tryz.prog 2 146 jY:=aOr (a:=3) (b:=3) (by kernel_rfl) rR rR
theorem aOt:wU Tryz.prog 28 (TSl jY):=pR (by kernel_rfl) (by kernel_rfl) aSe
theorem aOu:VC Tryz.prog 5 30 tO:=aUt (a:=27) (b:=23) (c:=28) (e:=23) (f:=3) (by kernel_rfl) aSd IA aOt IA rR
theorem aSf:VC Tryz.prog 2 99 vQ:=aOr (a:=9) (b:=3) (by kernel_rfl) aNb rR
theorem aOv:wU Tryz.prog 24 qW:=pR (by kernel_rfl) (by kernel_rfl) aSf
theorem aDa:∀ d xs,gA Tryz.prog d 106 xs->xs.length=4->TPatN d (.agg xs)
 | 0,_,h,_=>h.elim
 | d+1,xs,h,hl=>by
   have hf:DS Tryz.prog 106=some [(104,some none,0),(3,some none,1),(9,some none,2),(100,some none,3)]:=by kernel_rfl
   have hs:=jE hf h
   match xs,hl with
   | [x,y,z,u],_=>
     obtain ⟨k1,e1,h1⟩:=hs _ (List.mem_cons_self ..);obtain ⟨k2,e2,h2⟩:=hs _ (List.mem_cons_of_mem _ (List.mem_cons_self ..));obtain ⟨k3,e3,h3⟩:=hs _ (List.mem_cons_of_mem _ (List.mem_cons_of_mem _ (List.mem_cons_self ..)));obtain ⟨k4,e4,h4⟩:=hs _ (List.mem_cons_of_mem _ (List.mem_cons_of_mem _ (List.mem_cons_of_mem _ (List.mem_cons_self ..))));cases e1;cases e2;cases e3;cases e4;obtain ⟨_,q1,w1⟩:=(wV (P:=Tryz.prog) (t:=104) (by kernel_rfl)) _ _ h1;obtain ⟨_,q2,w2⟩:=rR _ _ h2;obtain ⟨_,q3,w3⟩:=aNb _ _ h3;have h4':gA Tryz.prog d 100 [u]:=h4
     cases d with
     | zero=>exact h4'.elim
     | succ d=>
       obtain ⟨a,ys,e,hsl,hy⟩:=sI (f:=id) (p:=TPatN (d+1)) (t:=100) (e:=106) (k:=some 4) (by kernel_rfl) (by kernel_rfl) (fun x h1 h2 _=>⟨.agg x,rfl,TPatN.succ d _ (aDa d x h1 h2)⟩) h4';cases q1;cases q2;cases q3;cases e;rw [List.map_id]at hsl;exact ⟨_,_,_,_,rfl,w1,w2,w3,ys,hsl,hy⟩
theorem aSg:VC Tryz.prog 4 106 vP:=fun d xs h hl=>⟨d,aDa d xs h hl⟩
theorem aOw:wU Tryz.prog 100 (TSl vP):=pR (by kernel_rfl) (by kernel_rfl) aSg
theorem aOx:VC Tryz.prog 4 102 eK:=aOs (a:=64) (b:=3) (c:=23) (e:=100) (by kernel_rfl) (wV (by kernel_rfl)) rR IA aOw
theorem aJc:wU Tryz.prog 22 (TSl eK):=pR (by kernel_rfl) (by kernel_rfl) aOx
theorem aOy:VC Tryz.prog 4 26 fY:=aOs (a:=22) (b:=23) (c:=3) (e:=24) (by kernel_rfl) aJc IA rR aOv
theorem aDb {o:AV} (h:pU o=true):rI o:=by
 simp only [pU,jA,Bool.and_eq_true,decide_eq_true_eq,List.all_eq_true]at h;refine ⟨aE,aE,fun f hf=>?_⟩;have:=h.2.2 f hf;simp only [wZ,jA,Bool.and_eq_true,decide_eq_true_eq]at this;exact ⟨aE,aE⟩
section
variable {p os ts us is no os' ts' us' is' no' d g:AV}
theorem QY (hp:fY p):Abs.Returns Tryz.prog 20 [p] (.bool (eE (p.fld 0).els (p.fld 1).els (p.fld 3).els)):=by
 obtain ⟨ns,fs,mm,cs,rfl,a1,a2,a3,a4⟩:=hp;exact IL ⟨a1,a2,a3,a4⟩
abbrev IB:List AV->Option AV:=rE fY fun p=>.bool (eE (p.fld 0).els (p.fld 1).els (p.fld 3).els)
theorem smallPV_ok:Abs.Ok Tryz.prog 20 IB:=wD fun a h=>QY h
def aOz (a:AV):Prop:=∃ os ts us is no os' ts' us' is' no' d g,a=stg os ts us is no os' ts' us' is' no' d g/\SG os ts us is no os' ts' us' is' no' d g
end
end
end Go.Proofs.YtifmdaalhclhgaaGreat
