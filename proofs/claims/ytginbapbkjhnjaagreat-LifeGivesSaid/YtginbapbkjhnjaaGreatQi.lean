/-
  Points: what is done when a state is given up with.
-/
import Derived.Test.YtginbapbkjhnjaaGreatQe
import Derived.Test.YtginbapbkjhnjaaGreatEt
import Derived.Test.YtginbapbkjhnjaaGreatQh
import Derived.Test.YtginbapbkjhnjaaGreatPa
import Derived.Test.YtginbapbkjhnjaaGreatEz
import Derived.Test.YtginbapbkjhnjaaGreatOh
set_option linter.unusedVariables false
set_option linter.unusedSimpArgs false
namespace Go.Proofs.YtginbapbkjhnjaaGreat
open Go.Abs Go Go.Abs.TryzF
noncomputable section
set_option maxRecDepth 10000
end
end Go.Proofs.YtginbapbkjhnjaaGreat
/-
 Points: opening a state.
-/
namespace Go.Proofs.YtginbapbkjhnjaaGreat
open Go.Abs Go Go.Abs.TryzF
noncomputable section
set_option maxRecDepth 10000
def OpenAt (lo:Nat) (s:Sto) (id:Nat) (ns fs mm cs ts us is no ts' us' is' no':AV) (xo xo' xd xg:List AV):Prop:=∃ os os' d g a b c,s.get id=some (bB 0 (pst os (bV ts) (bV us) (bV is) no ns fs mm cs os' (bV ts') (bV us') (bV is') no' d g))/\
 StN lo a s os (xo.map cpO)/\StN a b s os' (xo'.map cpO)/\StN b c s d xd/\StN c id s g xg/\lo<=a/\a<=b/\b<=c/\c<=id
theorem OpenAt.sim {lo:Nat} {s s':Sto} {id:Nat} {ns fs mm cs ts us is no ts' us' is' no':AV} {xo xo' xd xg:List AV} (h:OpenAt lo s id ns fs mm cs ts us is no ts' us' is' no' xo xo' xd xg) (hs:Sim s s'):OpenAt lo s' id ns fs mm cs ts us is no ts' us' is' no' xo xo' xd xg:=by
 obtain ⟨os,os',d,g,a,b,c,h1,h2,h3,h4,h5,h6⟩:=h
 exact ⟨os,os',d,g,a,b,c,hs.get h1,h2.sim hs,h3.sim hs,h4.sim hs,h5.sim hs,h6⟩
section
variable {p os ts us is no os' ts' us' is' no' d g:AV}
theorem lC {T:AV->Prop} {a:AV} (h:TSl T a):∀ x∈a.els,T x:=by obtain ⟨xs,hs,hx⟩:=h;rw [hs.els];exact hx
end
section
variable {p os ts us is no os' ts' us' is' no' d g:AV}
structure PS (p os ts us is no os' ts' us' is' no' d g:AV):Prop where
 hp:fG p
 hm:SmP p
 hs:SGL os ts us is no os' ts' us' is' no' d g
 hso:∀ o∈os.els,SmO o
 hso':∀ o∈os'.els,SmO o
theorem PS.und (h:PS p os ts us is no os' ts' us' is' no' d g):∀ x∈[p,stg os ts us is no os' ts' us' is' no' d g],Und 0 x:=aA (cX p h.hp).1.und (aA h.hs.und.und aF)
end
section
variable {p os ts us is no os' ts' us' is' no' d g:AV}
end
end
end Go.Proofs.YtginbapbkjhnjaaGreat
/-
 Arguments of laws: programs,worlds and states,by their types.
-/
namespace Go.Abs
noncomputable section
variable {P:Program}
def sJ (P:Program) (t:TypeId) (T:AV->Prop):Prop:=∀ d xs,eS P d t xs->∃ a,xs=[a]/\T a
def NF (P:Program) (k:Nat) (t:TypeId) (T:AV->Prop):Prop:=∀ d xs,eS P d t xs->xs.length=k->T (.agg xs)
theorem sK {t:TypeId} (hu:P.underlying t=some (.int .i64)):sJ P t cD:=fun d xs h=>by
 cases d with
 | zero=>exact h.elim
 | succ d=>obtain ⟨n,rfl,_⟩:=QC hu h;exact ⟨_,rfl,n,rfl⟩
theorem ZE {t:TypeId} (hu:P.underlying t=some .string):sJ P t oQ:=fun d xs h=>by
 cases d with
 | zero=>exact h.elim
 | succ d=>obtain ⟨l,rfl,h1,h2⟩:=QD hu h;exact ⟨_,rfl,l,rfl,h1,h2⟩
theorem aEi {t e:TypeId} {T:AV->Prop} (hu:P.underlying t=some (.slice e)) (hk:tyK P e=some none) (he:sJ P e T):sJ P t (TSl T):=fun d xs h=>by
 cases d with
 | zero=>exact h.elim
 | succ d=>
   obtain ⟨a,ys,rfl,hs,hy⟩:=pI (f:=id) (p:=T) hu hk (fun x h1 _ _=>by obtain ⟨a,rfl,ha⟩:=he _ _ h1;exact ⟨a,rfl,ha⟩) h
   exact ⟨a,rfl,ys,by rw [List.map_id]at hs;exact hs,hy⟩
theorem nC {t e:TypeId} {k:Nat} {T:AV->Prop} (hu:P.underlying t=some (.slice e)) (hk:tyK P e=some (some k)) (he:NF P k e T):sJ P t (TSl T):=fun d xs h=>by
 cases d with
 | zero=>exact h.elim
 | succ d=>
   obtain ⟨a,ys,rfl,hs,hy⟩:=pI (f:=id) (p:=T) hu hk (fun x h1 h2 _=>⟨.agg x,rfl,he _ _ h1 h2⟩) h
   exact ⟨a,rfl,ys,by rw [List.map_id]at hs;exact hs,hy⟩
theorem aEj {t a b:TypeId} {A B:AV->Prop} (hf:yI P t=some [(a,some none,0),(b,some none,1)]) (ha:sJ P a A) (hb:sJ P b B):NF P 2 t (T2 A B):=fun d xs h hl=>by
 cases d with
 | zero=>exact h.elim
 | succ d=>
   have hs:=gW hf h
   match xs,hl with
   | [x,y],_=>
     obtain ⟨k1,e1,h1⟩:=hs _ (List.mem_cons_self ..)
     obtain ⟨k2,e2,h2⟩:=hs _ (List.mem_cons_of_mem _ (List.mem_cons_self ..))
     cases e1;cases e2
     obtain ⟨_,q1,w1⟩:=ha _ _ h1
     obtain ⟨_,q2,w2⟩:=hb _ _ h2
     cases q1;cases q2
     exact ⟨_,_,rfl,w1,w2⟩
theorem aJw {t a b c:TypeId} {A B C:AV->Prop} (hf:yI P t=some [(a,some none,0),(b,some none,1),(c,some none,2)]) (ha:sJ P a A) (hb:sJ P b B) (hc:sJ P c C):NF P 3 t (T3 A B C):=fun d xs h hl=>by
 cases d with
 | zero=>exact h.elim
 | succ d=>
   have hs:=gW hf h
   match xs,hl with
   | [x,y,z],_=>
     obtain ⟨k1,e1,h1⟩:=hs _ (List.mem_cons_self ..)
     obtain ⟨k2,e2,h2⟩:=hs _ (List.mem_cons_of_mem _ (List.mem_cons_self ..))
     obtain ⟨k3,e3,h3⟩:=hs _ (List.mem_cons_of_mem _ (List.mem_cons_of_mem _ (List.mem_cons_self ..)))
     cases e1;cases e2;cases e3
     obtain ⟨_,q1,w1⟩:=ha _ _ h1
     obtain ⟨_,q2,w2⟩:=hb _ _ h2
     obtain ⟨_,q3,w3⟩:=hc _ _ h3
     cases q1;cases q2;cases q3
     exact ⟨_,_,_,rfl,w1,w2,w3⟩
theorem aEk {t a b c e:TypeId} {A B C E:AV->Prop} (hf:yI P t=some [(a,some none,0),(b,some none,1),(c,some none,2),(e,some none,3)]) (ha:sJ P a A) (hb:sJ P b B) (hc:sJ P c C) (he:sJ P e E):NF P 4 t (T4 A B C E):=fun d xs h hl=>by
 cases d with
 | zero=>exact h.elim
 | succ d=>
   have hs:=gW hf h
   match xs,hl with
   | [x,y,z,u],_=>
     obtain ⟨k1,e1,h1⟩:=hs _ (List.mem_cons_self ..)
     obtain ⟨k2,e2,h2⟩:=hs _ (List.mem_cons_of_mem _ (List.mem_cons_self ..))
     obtain ⟨k3,e3,h3⟩:=hs _ (List.mem_cons_of_mem _ (List.mem_cons_of_mem _ (List.mem_cons_self ..)))
     obtain ⟨k4,e4,h4⟩:=hs _ (List.mem_cons_of_mem _ (List.mem_cons_of_mem _ (List.mem_cons_of_mem _ (List.mem_cons_self ..))))
     cases e1;cases e2;cases e3;cases e4
     obtain ⟨_,q1,w1⟩:=ha _ _ h1
     obtain ⟨_,q2,w2⟩:=hb _ _ h2
     obtain ⟨_,q3,w3⟩:=hc _ _ h3
     obtain ⟨_,q4,w4⟩:=he _ _ h4
     cases q1;cases q2;cases q3;cases q4
     exact ⟨_,_,_,_,rfl,w1,w2,w3,w4⟩
theorem aJx {t a b c e f:TypeId} {A B C E F:AV->Prop} (hf:yI P t=some [(a,some none,0),(b,some none,1),(c,some none,2),(e,some none,3),(f,some none,4)]) (ha:sJ P a A) (hb:sJ P b B) (hc:sJ P c C) (he:sJ P e E) (hff:sJ P f F):NF P 5 t (T5 A B C E F):=fun d xs h hl=>by
 cases d with
 | zero=>exact h.elim
 | succ d=>
   have hs:=gW hf h
   match xs,hl with
   | [x,y,z,u,v],_=>
     obtain ⟨k1,e1,h1⟩:=hs _ (List.mem_cons_self ..)
     obtain ⟨k2,e2,h2⟩:=hs _ (List.mem_cons_of_mem _ (List.mem_cons_self ..))
     obtain ⟨k3,e3,h3⟩:=hs _ (List.mem_cons_of_mem _ (List.mem_cons_of_mem _ (List.mem_cons_self ..)))
     obtain ⟨k4,e4,h4⟩:=hs _ (List.mem_cons_of_mem _ (List.mem_cons_of_mem _ (List.mem_cons_of_mem _ (List.mem_cons_self ..))))
     obtain ⟨k5,e5,h5⟩:=hs _ (List.mem_cons_of_mem _ (List.mem_cons_of_mem _ (List.mem_cons_of_mem _ (List.mem_cons_of_mem _ (List.mem_cons_self ..)))))
     cases e1;cases e2;cases e3;cases e4;cases e5
     obtain ⟨_,q1,w1⟩:=ha _ _ h1
     obtain ⟨_,q2,w2⟩:=hb _ _ h2
     obtain ⟨_,q3,w3⟩:=hc _ _ h3
     obtain ⟨_,q4,w4⟩:=he _ _ h4
     obtain ⟨_,q5,w5⟩:=hff _ _ h5
     cases q1;cases q2;cases q3;cases q4;cases q5
     exact ⟨_,_,_,_,_,rfl,w1,w2,w3,w4,w5⟩
end
end Go.Abs
namespace Go.Proofs.YtginbapbkjhnjaaGreat
open Go.Abs Go Go.Abs.TryzF
noncomputable section
set_option maxRecDepth 10000
theorem mE:sJ Tryz.prog 3 cD:=sK (by kernel_rfl)
theorem aCv:sJ Tryz.prog 9 oQ:=ZE (by kernel_rfl)
theorem BW:sJ Tryz.prog 28 fF:=aEi (by kernel_rfl) (by kernel_rfl) mE
theorem aHg:NF Tryz.prog 2 169 zU:=aEj (a:=167) (b:=3) (by kernel_rfl) (sK (by kernel_rfl)) mE
theorem JF:sJ Tryz.prog 107 kI:=nC (by kernel_rfl) (by kernel_rfl) aHg
theorem aJy:NF Tryz.prog 3 113 IS:=aJw (a:=3) (b:=107) (c:=107) (by kernel_rfl) mE JF JF
theorem aHh:sJ Tryz.prog 108 yD:=nC (by kernel_rfl) (by kernel_rfl) aJy
theorem aJz:NF Tryz.prog 4 110 vM:=aEk (a:=106) (b:=3) (c:=107) (e:=108) (by kernel_rfl) (sK (by kernel_rfl)) mE JF aHh
theorem aHi:sJ Tryz.prog 43 (TSl vM):=nC (by kernel_rfl) (by kernel_rfl) aJz
theorem aHj:NF Tryz.prog 2 75 oP:=aEj (a:=3) (b:=3) (by kernel_rfl) mE mE
theorem aEl:sJ Tryz.prog 44 (TSl oP):=nC (by kernel_rfl) (by kernel_rfl) aHj
theorem aKa:NF Tryz.prog 5 46 AX:=aJx (a:=43) (b:=28) (c:=44) (e:=28) (f:=3) (by kernel_rfl) aHi BW aEl BW mE
theorem aHk:NF Tryz.prog 2 97 rU:=aEj (a:=9) (b:=3) (by kernel_rfl) aCv mE
theorem aEm:sJ Tryz.prog 40 oL:=nC (by kernel_rfl) (by kernel_rfl) aHk
theorem TO:∀ d xs,eS Tryz.prog d 105 xs->xs.length=4->TPatN d (.agg xs)
 | 0,_,h,_=>h.elim
 | d+1,xs,h,hl=>by
   have hf:yI Tryz.prog 105=some [(103,some none,0),(3,some none,1),(9,some none,2),(99,some none,3)]:=by kernel_rfl
   have hs:=gW hf h
   match xs,hl with
   | [x,y,z,u],_=>
     obtain ⟨k1,e1,h1⟩:=hs _ (List.mem_cons_self ..)
     obtain ⟨k2,e2,h2⟩:=hs _ (List.mem_cons_of_mem _ (List.mem_cons_self ..))
     obtain ⟨k3,e3,h3⟩:=hs _ (List.mem_cons_of_mem _ (List.mem_cons_of_mem _ (List.mem_cons_self ..)))
     obtain ⟨k4,e4,h4⟩:=hs _ (List.mem_cons_of_mem _ (List.mem_cons_of_mem _ (List.mem_cons_of_mem _ (List.mem_cons_self ..))))
     cases e1;cases e2;cases e3;cases e4
     obtain ⟨_,q1,w1⟩:=(sK (P:=Tryz.prog) (t:=103) (by kernel_rfl)) _ _ h1
     obtain ⟨_,q2,w2⟩:=mE _ _ h2
     obtain ⟨_,q3,w3⟩:=aCv _ _ h3
     have h4':eS Tryz.prog d 99 [u]:=h4
     cases d with
     | zero=>exact h4'.elim
     | succ d=>
       obtain ⟨a,ys,e,hsl,hy⟩:=pI (f:=id) (p:=TPatN (d+1)) (t:=99) (e:=105) (k:=some 4) (by kernel_rfl) (by kernel_rfl) (fun x h1 h2 _=>⟨.agg x,rfl,TPatN.succ d _ (TO d x h1 h2)⟩) h4'
       cases q1;cases q2;cases q3;cases e
       rw [List.map_id]at hsl
       exact ⟨_,_,_,_,rfl,w1,w2,w3,ys,hsl,hy⟩
theorem aHl:NF Tryz.prog 4 105 rT:=fun d xs h hl=>⟨d,TO d xs h hl⟩
theorem aEn:sJ Tryz.prog 99 (TSl rT):=nC (by kernel_rfl) (by kernel_rfl) aHl
theorem aEo:NF Tryz.prog 4 101 dL:=aEk (a:=98) (b:=3) (c:=28) (e:=99) (by kernel_rfl) (sK (by kernel_rfl)) mE BW aEn
theorem ZF:sJ Tryz.prog 39 (TSl dL):=nC (by kernel_rfl) (by kernel_rfl) aEo
theorem aEp:NF Tryz.prog 4 42 fG:=aEk (a:=39) (b:=28) (c:=3) (e:=40) (by kernel_rfl) ZF BW mE aEm
theorem TP {o:AV} (h:nF o=true):SmO o:=by
 simp only [nF,gS,Bool.and_eq_true,decide_eq_true_eq,List.all_eq_true]at h
 refine ⟨by omega,by omega,fun f hf=>?_⟩
 have:=h.2.2 f hf
 simp only [sN,gS,Bool.and_eq_true,decide_eq_true_eq]at this
 exact ⟨by omega,by omega⟩
section
variable {p os ts us is no os' ts' us' is' no' d g:AV}
theorem JG (hp:fG p):Abs.Returns Tryz.prog 15 [p] (.bool (eD (p.fld 0).els (p.fld 1).els (p.fld 3).els)):=by
 obtain ⟨ns,fs,mm,cs,rfl,a1,a2,a3,a4⟩:=hp
 exact CC ⟨a1,a2,a3,a4⟩
abbrev sL:List AV->Option AV:=rA fG fun p=>.bool (eD (p.fld 0).els (p.fld 1).els (p.fld 3).els)
theorem smallPV_ok:Abs.Ok Tryz.prog 15 sL:=vQ fun a h=>JG h
def aEq (a:AV):Prop:=∃ os ts us is no os' ts' us' is' no' d g,a=stg os ts us is no os' ts' us' is' no' d g/\SG os ts us is no os' ts' us' is' no' d g
end
end
end Go.Proofs.YtginbapbkjhnjaaGreat
