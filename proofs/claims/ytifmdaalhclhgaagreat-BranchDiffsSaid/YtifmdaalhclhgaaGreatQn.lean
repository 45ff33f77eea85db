/-
  Points: the program's check of a state.
-/
import Derived.Test.YtifmdaalhclhgaaGreatQi
import Derived.Test.YtifmdaalhclhgaaGreatQh
import Derived.Test.YtifmdaalhclhgaaGreatPa
import Derived.Test.YtifmdaalhclhgaaGreatEz
import Derived.Test.YtifmdaalhclhgaaGreatOh
set_option linter.unusedVariables false
set_option linter.unusedSimpArgs false
namespace Go.Proofs.YtifmdaalhclhgaaGreat
open Go.Abs Go Go.Abs.TryzF
noncomputable section
set_option maxRecDepth 10000
section
variable {p os ts us is no os' ts' us' is' no' d g:AV}
structure PS (p os ts us is no os' ts' us' is' no' d g:AV):Prop where
 hp:fH p
 hm:SmP p
 hs:SGL os ts us is no os' ts' us' is' no' d g
 hso:∀ o∈os.els,SmO o
 hso':∀ o∈os'.els,SmO o
theorem PS.und (h:PS p os ts us is no os' ts' us' is' no' d g):∀ x∈[p,stg os ts us is no os' ts' us' is' no' d g],Und 0 x:=aA (cU p h.hp).1.und (aA h.hs.und.und aD)
end
theorem fB (l:List AV):(bE l).els=l:=by
 unfold bE;split
 ·rename_i h;rw [List.length_eq_zero_iff.1 h];rfl
 ·rfl
theorem ZY (f:AV):(AP f).fld 0=f.fld 0/\((AP f).fld 1).els=(f.fld 1).els/\((AP f).fld 2).els=(f.fld 2).els:=⟨rfl,fB _,fB _⟩
theorem ZZ (o:AV):(lV o).fld 0=o.fld 0/\(lV o).fld 1=o.fld 1/\((lV o).fld 2).els=(o.fld 2).els/\((lV o).fld 3).els=(o.fld 3).els.map AP:=⟨rfl,rfl,fB _,fB _⟩
theorem aAa (f g:AV):oV (AP f) g=oV f g:=by
 obtain ⟨h1,h2,h3⟩:=ZY f;rw [oV,oV,h1,h2,h3]
theorem GT:∀ (a b:List AV),dT (a.map AP) b=dT a b
 | [],[]=>rfl
 | [],_::_=>rfl
 | _::_,[]=>rfl
 | x::a,y::b=>by rw [List.map_cons,dT,dT,aAa,GT a b]
theorem NZ (a b:AV):cX (lV a) b=cX a b:=by
 obtain ⟨h1,h2,h3,h4⟩:=ZZ a;rw [cX,cX,h1,h2,h3,h4,GT]
section
variable {p os ts us is no os' ts' us' is' no' d g:AV}
end
end
end Go.Proofs.YtifmdaalhclhgaaGreat
/-
 Arguments of laws: programs,worlds and states,by their types.
-/
namespace Go.Abs
noncomputable section
variable {P:Program}
def tB (P:Program) (t:TypeId) (T:AV->Prop):Prop:=∀ d xs,fM P d t xs->∃ a,xs=[a]/\T a
def OA (P:Program) (k:Nat) (t:TypeId) (T:AV->Prop):Prop:=∀ d xs,fM P d t xs->xs.length=k->T (.agg xs)
theorem tC {t:TypeId} (hu:P.underlying t=some (.int .i64)):tB P t cL:=fun d xs h=>by
 cases d with
 | zero=>exact h.elim
 | succ d=>obtain ⟨n,rfl,_⟩:=QX hu h;exact ⟨_,rfl,n,rfl⟩
theorem aAb {t:TypeId} (hu:P.underlying t=some .string):tB P t pD:=fun d xs h=>by
 cases d with
 | zero=>exact h.elim
 | succ d=>obtain ⟨l,rfl,h1,h2⟩:=QY hu h;exact ⟨_,rfl,l,rfl,h1,h2⟩
theorem aEq {t e:TypeId} {T:AV->Prop} (hu:P.underlying t=some (.slice e)) (hk:tyK P e=some none) (he:tB P e T):tB P t (TSl T):=fun d xs h=>by
 cases d with
 | zero=>exact h.elim
 | succ d=>
   obtain ⟨a,ys,rfl,hs,hy⟩:=pX (f:=id) (p:=T) hu hk (fun x h1 _ _=>by obtain ⟨a,rfl,ha⟩:=he _ _ h1;exact ⟨a,rfl,ha⟩) h;exact ⟨a,rfl,ys,by rw [List.map_id]at hs;exact hs,hy⟩
theorem nT {t e:TypeId} {k:Nat} {T:AV->Prop} (hu:P.underlying t=some (.slice e)) (hk:tyK P e=some (some k)) (he:OA P k e T):tB P t (TSl T):=fun d xs h=>by
 cases d with
 | zero=>exact h.elim
 | succ d=>
   obtain ⟨a,ys,rfl,hs,hy⟩:=pX (f:=id) (p:=T) hu hk (fun x h1 h2 _=>⟨.agg x,rfl,he _ _ h1 h2⟩) h;exact ⟨a,rfl,ys,by rw [List.map_id]at hs;exact hs,hy⟩
theorem aEr {t a b:TypeId} {A B:AV->Prop} (hf:zB P t=some [(a,some none,0),(b,some none,1)]) (ha:tB P a A) (hb:tB P b B):OA P 2 t (T2 A B):=fun d xs h hl=>by
 cases d with
 | zero=>exact h.elim
 | succ d=>
   have hs:=iP hf h
   match xs,hl with
   | [x,y],_=>
     obtain ⟨k1,e1,h1⟩:=hs _ (List.mem_cons_self ..);obtain ⟨k2,e2,h2⟩:=hs _ (List.mem_cons_of_mem _ (List.mem_cons_self ..));cases e1;cases e2;obtain ⟨_,q1,w1⟩:=ha _ _ h1;obtain ⟨_,q2,w2⟩:=hb _ _ h2;cases q1;cases q2;exact ⟨_,_,rfl,w1,w2⟩
theorem aKf {t a b c:TypeId} {A B C:AV->Prop} (hf:zB P t=some [(a,some none,0),(b,some none,1),(c,some none,2)]) (ha:tB P a A) (hb:tB P b B) (hc:tB P c C):OA P 3 t (T3 A B C):=fun d xs h hl=>by
 cases d with
 | zero=>exact h.elim
 | succ d=>
   have hs:=iP hf h
   match xs,hl with
   | [x,y,z],_=>
     obtain ⟨k1,e1,h1⟩:=hs _ (List.mem_cons_self ..);obtain ⟨k2,e2,h2⟩:=hs _ (List.mem_cons_of_mem _ (List.mem_cons_self ..));obtain ⟨k3,e3,h3⟩:=hs _ (List.mem_cons_of_mem _ (List.mem_cons_of_mem _ (List.mem_cons_self ..)));cases e1;cases e2;cases e3;obtain ⟨_,q1,w1⟩:=ha _ _ h1;obtain ⟨_,q2,w2⟩:=hb _ _ h2;obtain ⟨_,q3,w3⟩:=hc _ _ h3;cases q1;cases q2;cases q3;exact ⟨_,_,_,rfl,w1,w2,w3⟩
theorem aEs {t a b c e:TypeId} {A B C E:AV->Prop} (hf:zB P t=some [(a,some none,0),(b,some none,1),(c,some none,2),(e,some none,3)]) (ha:tB P a A) (hb:tB P b B) (hc:tB P c C) (he:tB P e E):OA P 4 t (T4 A B C E):=fun d xs h hl=>by
 cases d with
 | zero=>exact h.elim
 | succ d=>
   have hs:=iP hf h
   match xs,hl with
   | [x,y,z,u],_=>
     obtain ⟨k1,e1,h1⟩:=hs _ (List.mem_cons_self ..);obtain ⟨k2,e2,h2⟩:=hs _ (List.mem_cons_of_mem _ (List.mem_cons_self ..));obtain ⟨k3,e3,h3⟩:=hs _ (List.mem_cons_of_mem _ (List.mem_cons_of_mem _ (List.mem_cons_self ..)));obtain ⟨k4,e4,h4⟩:=hs _ (List.mem_cons_of_mem _ (List.mem_cons_of_mem _ (List.mem_cons_of_mem _ (List.mem_cons_self ..))));cases e1;cases e2;cases e3;cases e4;obtain ⟨_,q1,w1⟩:=ha _ _ h1;obtain ⟨_,q2,w2⟩:=hb _ _ h2;obtain ⟨_,q3,w3⟩:=hc _ _ h3;obtain ⟨_,q4,w4⟩:=he _ _ h4;cases q1;cases q2;cases q3;cases q4;exact ⟨_,_,_,_,rfl,w1,w2,w3,w4⟩
theorem aKg {t a b c e f:TypeId} {A B C E F:AV->Prop} (hf:zB P t=some [(a,some none,0),(b,some none,1),(c,some none,2),(e,some none,3),(f,some none,4)]) (ha:tB P a A) (hb:tB P b B) (hc:tB P c C) (he:tB P e E) (hff:tB P f F):OA P 5 t (T5 A B C E F):=fun d xs h hl=>by
 cases d with
 | zero=>exact h.elim
 | succ d=>
   have hs:=iP hf h
   match xs,hl with
   | [x,y,z,u,v],_=>
     obtain ⟨k1,e1,h1⟩:=hs _ (List.mem_cons_self ..);obtain ⟨k2,e2,h2⟩:=hs _ (List.mem_cons_of_mem _ (List.mem_cons_self ..));obtain ⟨k3,e3,h3⟩:=hs _ (List.mem_cons_of_mem _ (List.mem_cons_of_mem _ (List.mem_cons_self ..)));obtain ⟨k4,e4,h4⟩:=hs _ (List.mem_cons_of_mem _ (List.mem_cons_of_mem _ (List.mem_cons_of_mem _ (List.mem_cons_self ..))));obtain ⟨k5,e5,h5⟩:=hs _ (List.mem_cons_of_mem _ (List.mem_cons_of_mem _ (List.mem_cons_of_mem _ (List.mem_cons_of_mem _ (List.mem_cons_self ..)))));cases e1;cases e2;cases e3;cases e4;cases e5;obtain ⟨_,q1,w1⟩:=ha _ _ h1;obtain ⟨_,q2,w2⟩:=hb _ _ h2;obtain ⟨_,q3,w3⟩:=hc _ _ h3;obtain ⟨_,q4,w4⟩:=he _ _ h4;obtain ⟨_,q5,w5⟩:=hff _ _ h5;cases q1;cases q2;cases q3;cases q4;cases q5;exact ⟨_,_,_,_,_,rfl,w1,w2,w3,w4,w5⟩
end
end Go.Abs
namespace Go.Proofs.YtifmdaalhclhgaaGreat
open Go.Abs Go Go.Abs.TryzF
noncomputable section
set_option maxRecDepth 10000
theorem pJ:tB Tryz.prog 3 cL:=tC (by kernel_rfl)
theorem aDo:tB Tryz.prog 9 pD:=aAb (by kernel_rfl)
theorem CV:tB Tryz.prog 23 fG:=aEq (by kernel_rfl) (by kernel_rfl) pJ
theorem aHr:OA Tryz.prog 2 67 vC:=aEr (a:=65) (b:=3) (by kernel_rfl) (tC (by kernel_rfl)) pJ
theorem KD:tB Tryz.prog 73 fV:=nT (by kernel_rfl) (by kernel_rfl) aHr
theorem aKh:OA Tryz.prog 3 109 ON:=aKf (a:=3) (b:=73) (c:=73) (by kernel_rfl) pJ KD KD
theorem aHs:tB Tryz.prog 74 sK:=nT (by kernel_rfl) (by kernel_rfl) aKh
theorem aKi:OA Tryz.prog 4 76 kT:=aEs (a:=72) (b:=3) (c:=73) (e:=74) (by kernel_rfl) (tC (by kernel_rfl)) pJ KD aHs
theorem aHt:tB Tryz.prog 27 (TSl kT):=nT (by kernel_rfl) (by kernel_rfl) aKi
theorem aHu:OA Tryz.prog 2 146 lX:=aEr (a:=3) (b:=3) (by kernel_rfl) pJ pJ
theorem aEt:tB Tryz.prog 28 (TSl lX):=nT (by kernel_rfl) (by kernel_rfl) aHu
theorem aHv:OA Tryz.prog 5 30 rP:=aKg (a:=27) (b:=23) (c:=28) (e:=23) (f:=3) (by kernel_rfl) aHt CV aEt CV pJ
theorem aHw:OA Tryz.prog 2 99 sM:=aEr (a:=9) (b:=3) (by kernel_rfl) aDo pJ
theorem aEu:tB Tryz.prog 24 oX:=nT (by kernel_rfl) (by kernel_rfl) aHw
theorem UK:∀ d xs,fM Tryz.prog d 106 xs->xs.length=4->TPatN d (.agg xs)
 | 0,_,h,_=>h.elim
 | d+1,xs,h,hl=>by
   have hf:zB Tryz.prog 106=some [(104,some none,0),(3,some none,1),(9,some none,2),(100,some none,3)]:=by kernel_rfl
   have hs:=iP hf h
   match xs,hl with
   | [x,y,z,u],_=>
     obtain ⟨k1,e1,h1⟩:=hs _ (List.mem_cons_self ..);obtain ⟨k2,e2,h2⟩:=hs _ (List.mem_cons_of_mem _ (List.mem_cons_self ..));obtain ⟨k3,e3,h3⟩:=hs _ (List.mem_cons_of_mem _ (List.mem_cons_of_mem _ (List.mem_cons_self ..)));obtain ⟨k4,e4,h4⟩:=hs _ (List.mem_cons_of_mem _ (List.mem_cons_of_mem _ (List.mem_cons_of_mem _ (List.mem_cons_self ..))));cases e1;cases e2;cases e3;cases e4;obtain ⟨_,q1,w1⟩:=(tC (P:=Tryz.prog) (t:=104) (by kernel_rfl)) _ _ h1;obtain ⟨_,q2,w2⟩:=pJ _ _ h2;obtain ⟨_,q3,w3⟩:=aDo _ _ h3;have h4':fM Tryz.prog d 100 [u]:=h4
     cases d with
     | zero=>exact h4'.elim
     | succ d=>
       obtain ⟨a,ys,e,hsl,hy⟩:=pX (f:=id) (p:=TPatN (d+1)) (t:=100) (e:=106) (k:=some 4) (by kernel_rfl) (by kernel_rfl) (fun x h1 h2 _=>⟨.agg x,rfl,TPatN.succ d _ (UK d x h1 h2)⟩) h4';cases q1;cases q2;cases q3;cases e;rw [List.map_id]at hsl;exact ⟨_,_,_,_,rfl,w1,w2,w3,ys,hsl,hy⟩
theorem aHx:OA Tryz.prog 4 106 sL:=fun d xs h hl=>⟨d,UK d xs h hl⟩
theorem aEv:tB Tryz.prog 100 (TSl sL):=nT (by kernel_rfl) (by kernel_rfl) aHx
theorem aEw:OA Tryz.prog 4 102 eA:=aEs (a:=64) (b:=3) (c:=23) (e:=100) (by kernel_rfl) (tC (by kernel_rfl)) pJ CV aEv
theorem aAc:tB Tryz.prog 22 (TSl eA):=nT (by kernel_rfl) (by kernel_rfl) aEw
theorem aEx:OA Tryz.prog 4 26 fH:=aEs (a:=22) (b:=23) (c:=3) (e:=24) (by kernel_rfl) aAc CV pJ aEu
theorem UL {o:AV} (h:nV o=true):SmO o:=by
 simp only [nV,iL,Bool.and_eq_true,decide_eq_true_eq,List.all_eq_true]at h;refine ⟨by omega,by omega,fun f hf=>?_⟩;have:=h.2.2 f hf;simp only [tI,iL,Bool.and_eq_true,decide_eq_true_eq]at this;exact ⟨by omega,by omega⟩
section
variable {p os ts us is no os' ts' us' is' no' d g:AV}
theorem KE (hp:fH p):Abs.Returns Tryz.prog 20 [p] (.bool (dU (p.fld 0).els (p.fld 1).els (p.fld 3).els)):=by
 obtain ⟨ns,fs,mm,cs,rfl,a1,a2,a3,a4⟩:=hp;exact DG ⟨a1,a2,a3,a4⟩
abbrev CW:List AV->Option AV:=pE fH fun p=>.bool (dU (p.fld 0).els (p.fld 1).els (p.fld 3).els)
theorem smallPV_ok:Abs.Ok Tryz.prog 20 CW:=sW fun a h=>KE h
def aEy (a:AV):Prop:=∃ os ts us is no os' ts' us' is' no' d g,a=stg os ts us is no os' ts' us' is' no' d g/\SG os ts us is no os' ts' us' is' no' d g
end
end
end Go.Proofs.YtifmdaalhclhgaaGreat
