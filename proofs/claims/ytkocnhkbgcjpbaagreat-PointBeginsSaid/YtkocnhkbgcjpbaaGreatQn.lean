/-
  Points: the program's check of a state.
-/
import Derived.Test.YtkocnhkbgcjpbaaGreatQi
import Derived.Test.YtkocnhkbgcjpbaaGreatQh
import Derived.Test.YtkocnhkbgcjpbaaGreatPa
import Derived.Test.YtkocnhkbgcjpbaaGreatEz
import Derived.Test.YtkocnhkbgcjpbaaGreatOh
set_option linter.unusedVariables false
set_option linter.unusedSimpArgs false
namespace Go.Proofs.YtkocnhkbgcjpbaaGreat
open Go.Abs Go Go.Abs.TryzF
noncomputable section
set_option maxRecDepth 10000
section
variable {p os ts us is no os' ts' us' is' no' d g:AV}
def BY (p os ts us is no os' ts' us' is' no' d g:AV) (args:List AV) (s:Sto) (res:CRes):Prop:=∃ S v,args=[p,mQ os ts us is no os' ts' us' is' no' d g]/\res=.ret v (some S)/\aAp p os ts us is no os' ts' us' is' no' d g s S v/\bG Tryz.prog 29 args s res
theorem OY (hp:eN p) (h:SGL os ts us is no os' ts' us' is' no' d g) (hso:∀ o∈os.els,AP o) (hso':∀ o∈os'.els,AP o) (s:Sto):∃ res,BY p os ts us is no os' ts' us' is' no' d g [p,mQ os ts us is no os' ts' us' is' no' d g] s res:=by
 obtain ⟨S,v,⟨h1,h2⟩,h3⟩:=aAr hp h hso hso' s
 refine ⟨_,{S with low:=Nat.min s.low S.low},v,rfl,rfl,⟨⟨h1.1,fun id hid=>h1.2 id hid⟩,?_⟩,h3⟩
 rcases h2 with ⟨q1,id,q2,q3⟩ | h2
 ·exact .inl ⟨q1,id,q2,q3.sim (Sim.low S _)⟩
 ·exact .inr h2
structure PS (p os ts us is no os' ts' us' is' no' d g:AV):Prop where
 hp:eN p
 hm:SmP p
 hs:SGL os ts us is no os' ts' us' is' no' d g
 hso:∀ o∈os.els,AP o
 hso':∀ o∈os'.els,AP o
abbrev LO (p os ts us is no os' ts' us' is' no' d g:AV):List kL:=[fV 29 (BY p os ts us is no os' ts' us' is' no' d g)]
theorem PS.und (h:PS p os ts us is no os' ts' us' is' no' d g):∀ x∈[p,mQ os ts us is no os' ts' us' is' no' d g],Und 0 x:=aA (dD p h.hp).1.und (aA h.hs.und.und aD)
end
theorem gV (l:List AV):(bM l).els=l:=by
 unfold bM;split
 ·rename_i h;rw [List.length_eq_zero_iff.1 h];rfl
 ·rfl
theorem AY (f:AV):(tQ f).fld 0=f.fld 0/\((tQ f).fld 1).els=(f.fld 1).els/\((tQ f).fld 2).els=(f.fld 2).els:=⟨rfl,gV _,gV _⟩
theorem HA (o:AV):(cN o).fld 0=o.fld 0/\(cN o).fld 1=o.fld 1/\((cN o).fld 2).els=(o.fld 2).els/\((cN o).fld 3).els=(o.fld 3).els.map tQ:=⟨rfl,rfl,gV _,gV _⟩
theorem aLk {ns:List AV} {nf no:Int} (f:AV):LY ns nf no (tQ f)=LY ns nf no f:=by
 obtain ⟨h1,h2,h3⟩:=AY f
 rw [LY,LY,h1,h2,h3]
theorem aAd {ns:List AV} (f:AV):gJ ns (tQ f)=gJ ns f:=by
 obtain ⟨h1,h2,h3⟩:=AY f
 rw [gJ,gJ,h1,h3]
theorem BZ {ns:List AV} {nf no:Int} {fs:List AV} {last:Int}:eB ns nf no (fs.map tQ) last=eB ns nf no fs last:=by
 rw [eB,eB,nQ,nQ,List.length_map,List.all_map,<-List.map_take,List.all_map]
 have e1:(LY ns nf no ∘ tQ)=LY ns nf no:=funext aLk
 have e2:(gJ ns ∘ tQ)=gJ ns:=funext aAd
 rw [e1,e2]
theorem aAe {ns:List AV} {nf no n:Int} {vs fs:List AV}:kP ns nf no n vs (fs.map tQ)=kP ns nf no n vs fs:=by
 simp only [kP,List.length_map,BZ]
theorem aGg {ns cs:List AV} {nf no k n:Int} {vs fs:List AV}:kM ns cs nf no k n vs (fs.map tQ)=kM ns cs nf no k n vs fs:=by
 have h:((fs.map tQ).getD 0 .top).fld 0=(fs.getD 0 .top).fld 0:=by cases fs<;>rfl
 simp only [kM,List.length_map,BZ,aAe,h]
theorem aGh {ns cs:List AV} {nf no:Int} (o:AV):wZ ns cs nf no (cN o)=wZ ns cs nf no o:=by
 obtain ⟨h1,h2,h3,h4⟩:=HA o
 rw [wZ,wZ,h1,h2,h3,h4,aGg]
theorem TD {os:List AV} {k:Nat}:((os.map cN).getD k .top).fld 0=(os.getD k .top).fld 0:=by
 rw [List.getD_eq_getElem?_getD,List.getD_eq_getElem?_getD,List.getElem?_map]
 cases os[k]?<;>rfl
theorem VT {os:List AV} {k:Int}:iF (os.map cN) k=iF os k:=by rw [iF,iF,List.length_map,TD]
theorem KO {os:List AV}:∀ (l pre:List AV),jX (os.map cN) pre l=jX os pre l
 | [],_=>rfl
 | x::l,pre=>by rw [jX,jX,VT,KO l]
theorem aAf {os ts:List AV} (x:AV):jM (os.map cN) ts x=jM os ts x:=by rw [jM,jM,TD]
theorem VU {os ts:List AV}:kR (os.map cN) ts=kR os ts:=by
 rw [kR,kR,KO,List.length_map,show jM (os.map cN) ts=jM os ts from funext aAf]
theorem VV {ns cs:List AV} {nf:Int} {os ts us is:List AV} {n:Int}:kS ns cs nf (os.map cN) ts us is n=kS ns cs nf os ts us is n:=by
 rw [kS,kS,List.length_map,List.all_map,show (wZ ns cs nf os.length ∘ cN)=wZ ns cs nf os.length from funext aGh,VU]
theorem aGi (f g:AV):lV (tQ f) g=lV f g:=by
 obtain ⟨h1,h2,h3⟩:=AY f
 rw [lV,lV,h1,h2,h3]
theorem aGj (f g:AV):lV f (tQ g)=lV f g:=by
 obtain ⟨h1,h2,h3⟩:=AY g
 rw [lV,lV,h1,h2,h3]
theorem KP:∀ (a b:List AV),dK (a.map tQ) b=dK a b
 | [],[]=>rfl
 | [],_::_=>rfl
 | _::_,[]=>rfl
 | x::a,y::b=>by rw [List.map_cons,dK,dK,aGi,KP a b]
theorem KQ:∀ (a b:List AV),dK a (b.map tQ)=dK a b
 | [],[]=>rfl
 | [],_::_=>rfl
 | _::_,[]=>rfl
 | x::a,y::b=>by rw [List.map_cons,dK,dK,aGj,KQ a b]
theorem HB (a b:AV):dZ (cN a) b=dZ a b:=by
 obtain ⟨h1,h2,h3,h4⟩:=HA a
 rw [dZ,dZ,h1,h2,h3,h4,KP]
theorem aGk (a b:AV):dZ a (cN b)=dZ a b:=by
 obtain ⟨h1,h2,h3,h4⟩:=HA b
 rw [dZ,dZ,h1,h2,h3,h4,KQ]
theorem nT {xs:List AV} {i:Nat} (h:i<xs.length):(xs.map cN).getD i .top=cN (xs.getD i .top):=by
 rw [List.getD_eq_getElem?_getD,List.getD_eq_getElem?_getD,List.getElem?_map,List.getElem?_eq_getElem h];rfl
theorem aAg {xo' xo xd xg:List AV} (h:xo'.length<=xo.length) (i:Nat):gG (xo'.map cN) (xo.map cN) xd xg i=gG xo' xo xd xg i:=by
 unfold gG
 rw [List.length_map]
 by_cases k:xo'.length<=i
 ·rw [if_pos k,if_pos k]
 ·rw [if_neg k,if_neg k,nT (by omega),nT (by omega),HB,aGk,zT,zT,HB]
theorem wI {xo xo' xd:List AV} (h:xo'.length<=xo.length):lM (xo.map cN) (xo'.map cN) xd=((dN xo xo' xd xo'.length).map cN).map cN:=by
 rw [lM,dN,List.length_map,List.map_map,List.map_map]
 refine List.map_congr_left fun i hi=>?_
 have hi':i<xo'.length:=List.mem_range.1 hi
 rw [nT hi',nT (by omega)]
 show (if rN xd i=true then cN (cN (xo'.getD i .top)) else cN (cN (xo.getD i .top)))=cN (cN (if rN xd i=true then xo'.getD i .top else xo.getD i .top))
 cases rN xd i<;>rfl
section
variable {p os ts us is no os' ts' us' is' no' d g:AV}
theorem VW (h:SGL os ts us is no os' ts' us' is' no' d g) (hl:os'.els.length<=os.els.length):qD p (jA os os' d ts' us' is' no')=qD p (gS os os' d ts' us' is' no'):=by
 have e:∀ {T:AV->Prop} {a:AV},TSl T a->(aJ (aJ a)).els=(bM a.els).els:=fun h=>by rw [dQ (aY h),dQ h,gV]
 show kS _ _ _ (bM (lM _ _ _)).els (aJ (aJ ts')).els (aJ (aJ us')).els (aJ (aJ is')).els no'.num=kS _ _ _ (bM (dN _ _ _ _)).els (bM ts'.els).els (bM us'.els).els (bM is'.els).els no'.num
 simp only [e h.s.ts,e h.s.us,e h.s.is,gV,wI hl,VV]
theorem rT (hp:eN p) (w:AV):(jU p&&qD p w)=(eL p&&jP p w):=by
 obtain ⟨ns,fs,mm,cs,rfl,a1,a2,a3,a4⟩:=hp
 exact aGw (bH a4)
theorem aGl (h:PS p os ts us is no os' ts' us' is' no' d g):uT p os ts us is no os' ts' us' is' no' d g=(eL p&&jE p os ts us is no os' ts' us' is' no' d g):=by
 obtain ⟨hp,hm,hs,hso,hso'⟩:=h
 rw [uT,jE,rT hp,rT hp]
 by_cases k1:os'.els.length<=os.els.length
 rotate_left
 ·rw [jG,decide_eq_false k1,Bool.false_and,Bool.false_and,Bool.and_false,Bool.false_and,Bool.and_false,Bool.and_false]
 by_cases k3:g.els.length=os.els.length
 rotate_left
 ·rw [jG,decide_eq_false k3];simp
 have e:jP p (jA os os' d ts' us' is' no')=jP p (gS os os' d ts' us' is' no')∨eL p=false:=by
  cases hr:eL p with
  | false=>exact .inr rfl
  | true=>
    left
    have h1:=rT hp (jA os os' d ts' us' is' no')
    have h2:=rT hp (gS os os' d ts' us' is' no')
    rw [VW hs k1]at h1
    rw [hr,Bool.true_and]at h1 h2
    exact h1.symm.trans h2
 rw [show gG (os'.els.map cN) (os.els.map cN) d.els g.els=gG os'.els os.els d.els g.els from funext (aAg k1),jG,k3]
 rcases e with e | e
 ·rw [e]
  cases eL p<;>cases jP p (wg os ts us is no)<;>cases (List.range' 0 os.els.length).all (gG os'.els os.els d.els g.els)<;>cases jP p (gS os os' d ts' us' is' no')<;>simp
 ·simp [e]
end
end
end Go.Proofs.YtkocnhkbgcjpbaaGreat
/-
 Arguments of laws: programs,worlds and states,by their types.
-/
namespace Go.Abs
noncomputable section
variable {P:Program}
def uS (P:Program) (t:TypeId) (T:AV->Prop):Prop:=∀ d xs,fK P d t xs->∃ a,xs=[a]/\T a
def TE (P:Program) (k:Nat) (t:TypeId) (T:AV->Prop):Prop:=∀ d xs,fK P d t xs->xs.length=k->T (.agg xs)
theorem wJ {t:TypeId} (hu:P.underlying t=some (.int .i64)):uS P t cP:=fun d xs h=>by
 cases d with
 | zero=>exact h.elim
 | succ d=>obtain ⟨n,rfl,_⟩:=XD hu h;exact ⟨_,rfl,n,rfl⟩
theorem aAh {t:TypeId} (hu:P.underlying t=some .bool):uS P t sQ:=fun d xs h=>by
 cases d with
 | zero=>exact h.elim
 | succ d=>obtain ⟨b,rfl⟩:=QQ hu h;exact ⟨_,rfl,b,rfl⟩
theorem aGm {t:TypeId} (hu:P.underlying t=some .string):uS P t rJ:=fun d xs h=>by
 cases d with
 | zero=>exact h.elim
 | succ d=>obtain ⟨l,rfl,h1,h2⟩:=XE hu h;exact ⟨_,rfl,l,rfl,h1,h2⟩
theorem aAi {t e:TypeId} {T:AV->Prop} (hu:P.underlying t=some (.slice e)) (hk:tyK P e=some none) (he:uS P e T):uS P t (TSl T):=fun d xs h=>by
 cases d with
 | zero=>exact h.elim
 | succ d=>
   obtain ⟨a,ys,rfl,hs,hy⟩:=sS (f:=id) (p:=T) hu hk (fun x h1 _ _=>by obtain ⟨a,rfl,ha⟩:=he _ _ h1;exact ⟨a,rfl,ha⟩) h
   exact ⟨a,rfl,ys,by rw [List.map_id]at hs;exact hs,hy⟩
theorem pX {t e:TypeId} {k:Nat} {T:AV->Prop} (hu:P.underlying t=some (.slice e)) (hk:tyK P e=some (some k)) (he:TE P k e T):uS P t (TSl T):=fun d xs h=>by
 cases d with
 | zero=>exact h.elim
 | succ d=>
   obtain ⟨a,ys,rfl,hs,hy⟩:=sS (f:=id) (p:=T) hu hk (fun x h1 h2 _=>⟨.agg x,rfl,he _ _ h1 h2⟩) h
   exact ⟨a,rfl,ys,by rw [List.map_id]at hs;exact hs,hy⟩
theorem aLl {t a b:TypeId} {A B:AV->Prop} (hf:AB P t=some [(a,some none,0),(b,some none,1)]) (ha:uS P a A) (hb:uS P b B):TE P 2 t (T2 A B):=fun d xs h hl=>by
 cases d with
 | zero=>exact h.elim
 | succ d=>
   have hs:=gZ hf h
   match xs,hl with
   | [x,y],_=>
     obtain ⟨k1,e1,h1⟩:=hs _ (List.mem_cons_self ..)
     obtain ⟨k2,e2,h2⟩:=hs _ (List.mem_cons_of_mem _ (List.mem_cons_self ..))
     cases e1;cases e2
     obtain ⟨_,q1,w1⟩:=ha _ _ h1
     obtain ⟨_,q2,w2⟩:=hb _ _ h2
     cases q1;cases q2
     exact ⟨_,_,rfl,w1,w2⟩
theorem aQv {t a b c:TypeId} {A B C:AV->Prop} (hf:AB P t=some [(a,some none,0),(b,some none,1),(c,some none,2)]) (ha:uS P a A) (hb:uS P b B) (hc:uS P c C):TE P 3 t (T3 A B C):=fun d xs h hl=>by
 cases d with
 | zero=>exact h.elim
 | succ d=>
   have hs:=gZ hf h
   match xs,hl with
   | [x,y,z],_=>
     obtain ⟨k1,e1,h1⟩:=hs _ (List.mem_cons_self ..)
     obtain ⟨k2,e2,h2⟩:=hs _ (List.mem_cons_of_mem _ (List.mem_cons_self ..))
     obtain ⟨k3,e3,h3⟩:=hs _ (List.mem_cons_of_mem _ (List.mem_cons_of_mem _ (List.mem_cons_self ..)))
     cases e1;cases e2;cases e3
     obtain ⟨_,q1,w1⟩:=ha _ _ h1
     obtain ⟨_,q2,w2⟩:=hb _ _ h2
     obtain ⟨_,q3,w3⟩:=hc _ _ h3
     cases q1;cases q2;cases q3
     exact ⟨_,_,_,rfl,w1,w2,w3⟩
theorem aLm {t a b c e:TypeId} {A B C E:AV->Prop} (hf:AB P t=some [(a,some none,0),(b,some none,1),(c,some none,2),(e,some none,3)]) (ha:uS P a A) (hb:uS P b B) (hc:uS P c C) (he:uS P e E):TE P 4 t (T4 A B C E):=fun d xs h hl=>by
 cases d with
 | zero=>exact h.elim
 | succ d=>
   have hs:=gZ hf h
   match xs,hl with
   | [x,y,z,u],_=>
     obtain ⟨k1,e1,h1⟩:=hs _ (List.mem_cons_self ..)
     obtain ⟨k2,e2,h2⟩:=hs _ (List.mem_cons_of_mem _ (List.mem_cons_self ..))
     obtain ⟨k3,e3,h3⟩:=hs _ (List.mem_cons_of_mem _ (List.mem_cons_of_mem _ (List.mem_cons_self ..)))
     obtain ⟨k4,e4,h4⟩:=hs _ (List.mem_cons_of_mem _ (List.mem_cons_of_mem _ (List.mem_cons_of_mem _ (List.mem_cons_self ..))))
     cases e1;cases e2;cases e3;cases e4
     obtain ⟨_,q1,w1⟩:=ha _ _ h1
     obtain ⟨_,q2,w2⟩:=hb _ _ h2
     obtain ⟨_,q3,w3⟩:=hc _ _ h3
     obtain ⟨_,q4,w4⟩:=he _ _ h4
     cases q1;cases q2;cases q3;cases q4
     exact ⟨_,_,_,_,rfl,w1,w2,w3,w4⟩
theorem aQw {t a b c e f:TypeId} {A B C E F:AV->Prop} (hf:AB P t=some [(a,some none,0),(b,some none,1),(c,some none,2),(e,some none,3),(f,some none,4)]) (ha:uS P a A) (hb:uS P b B) (hc:uS P c C) (he:uS P e E) (hff:uS P f F):TE P 5 t (T5 A B C E F):=fun d xs h hl=>by
 cases d with
 | zero=>exact h.elim
 | succ d=>
   have hs:=gZ hf h
   match xs,hl with
   | [x,y,z,u,v],_=>
     obtain ⟨k1,e1,h1⟩:=hs _ (List.mem_cons_self ..)
     obtain ⟨k2,e2,h2⟩:=hs _ (List.mem_cons_of_mem _ (List.mem_cons_self ..))
     obtain ⟨k3,e3,h3⟩:=hs _ (List.mem_cons_of_mem _ (List.mem_cons_of_mem _ (List.mem_cons_self ..)))
     obtain ⟨k4,e4,h4⟩:=hs _ (List.mem_cons_of_mem _ (List.mem_cons_of_mem _ (List.mem_cons_of_mem _ (List.mem_cons_self ..))))
     obtain ⟨k5,e5,h5⟩:=hs _ (List.mem_cons_of_mem _ (List.mem_cons_of_mem _ (List.mem_cons_of_mem _ (List.mem_cons_of_mem _ (List.mem_cons_self ..)))))
     cases e1;cases e2;cases e3;cases e4;cases e5
     obtain ⟨_,q1,w1⟩:=ha _ _ h1
     obtain ⟨_,q2,w2⟩:=hb _ _ h2
     obtain ⟨_,q3,w3⟩:=hc _ _ h3
     obtain ⟨_,q4,w4⟩:=he _ _ h4
     obtain ⟨_,q5,w5⟩:=hff _ _ h5
     cases q1;cases q2;cases q3;cases q4;cases q5
     exact ⟨_,_,_,_,_,rfl,w1,w2,w3,w4,w5⟩
end
end Go.Abs
namespace Go.Proofs.YtkocnhkbgcjpbaaGreat
open Go.Abs Go Go.Abs.TryzF
noncomputable section
set_option maxRecDepth 10000
theorem rU:uS Tryz.prog 3 cP:=wJ (by kernel_rfl)
theorem aLn:uS Tryz.prog 4 sQ:=aAh (by kernel_rfl)
theorem aKb:uS Tryz.prog 9 rJ:=aGm (by kernel_rfl)
theorem HC:uS Tryz.prog 23 eC:=aAi (by kernel_rfl) (by kernel_rfl) rU
theorem TF:uS Tryz.prog 31 qC:=aAi (by kernel_rfl) (by kernel_rfl) aLn
theorem aOk:TE Tryz.prog 2 66 yU:=aLl (a:=64) (b:=3) (by kernel_rfl) (wJ (by kernel_rfl)) rU
theorem OZ:uS Tryz.prog 82 iM:=pX (by kernel_rfl) (by kernel_rfl) aOk
theorem aQx:TE Tryz.prog 3 93 UA:=aQv (a:=3) (b:=82) (c:=82) (by kernel_rfl) rU OZ OZ
theorem aOl:uS Tryz.prog 83 xE:=pX (by kernel_rfl) (by kernel_rfl) aQx
theorem aQy:TE Tryz.prog 4 85 nP:=aLm (a:=81) (b:=3) (c:=82) (e:=83) (by kernel_rfl) (wJ (by kernel_rfl)) rU OZ aOl
theorem aOm:uS Tryz.prog 27 (TSl nP):=pX (by kernel_rfl) (by kernel_rfl) aQy
theorem aOn:TE Tryz.prog 2 134 mY:=aLl (a:=3) (b:=3) (by kernel_rfl) rU rU
theorem aLo:uS Tryz.prog 28 (TSl mY):=pX (by kernel_rfl) (by kernel_rfl) aOn
theorem aLp:TE Tryz.prog 5 30 KC:=aQw (a:=27) (b:=23) (c:=28) (e:=23) (f:=3) (by kernel_rfl) aOm HC aLo HC rU
theorem aOo:TE Tryz.prog 2 53 yV:=aLl (a:=9) (b:=3) (by kernel_rfl) aKb rU
theorem aLq:uS Tryz.prog 24 rE:=pX (by kernel_rfl) (by kernel_rfl) aOo
theorem aAj:∀ d xs,fK Tryz.prog d 61 xs->xs.length=4->TPatN d (.agg xs)
 | 0,_,h,_=>h.elim
 | d+1,xs,h,hl=>by
   have hf:AB Tryz.prog 61=some [(59,some none,0),(3,some none,1),(9,some none,2),(55,some none,3)]:=by kernel_rfl
   have hs:=gZ hf h
   match xs,hl with
   | [x,y,z,u],_=>
     obtain ⟨k1,e1,h1⟩:=hs _ (List.mem_cons_self ..)
     obtain ⟨k2,e2,h2⟩:=hs _ (List.mem_cons_of_mem _ (List.mem_cons_self ..))
     obtain ⟨k3,e3,h3⟩:=hs _ (List.mem_cons_of_mem _ (List.mem_cons_of_mem _ (List.mem_cons_self ..)))
     obtain ⟨k4,e4,h4⟩:=hs _ (List.mem_cons_of_mem _ (List.mem_cons_of_mem _ (List.mem_cons_of_mem _ (List.mem_cons_self ..))))
     cases e1;cases e2;cases e3;cases e4
     obtain ⟨_,q1,w1⟩:=(wJ (P:=Tryz.prog) (t:=59) (by kernel_rfl)) _ _ h1
     obtain ⟨_,q2,w2⟩:=rU _ _ h2
     obtain ⟨_,q3,w3⟩:=aKb _ _ h3
     have h4':fK Tryz.prog d 55 [u]:=h4
     cases d with
     | zero=>exact h4'.elim
     | succ d=>
       obtain ⟨a,ys,e,hsl,hy⟩:=sS (f:=id) (p:=TPatN (d+1)) (t:=55) (e:=61) (k:=some 4) (by kernel_rfl) (by kernel_rfl) (fun x h1 h2 _=>⟨.agg x,rfl,TPatN.succ d _ (aAj d x h1 h2)⟩) h4'
       cases q1;cases q2;cases q3;cases e
       rw [List.map_id]at hsl
       exact ⟨_,_,_,_,rfl,w1,w2,w3,ys,hsl,hy⟩
theorem aOp:TE Tryz.prog 4 61 vT:=fun d xs h hl=>⟨d,aAj d xs h hl⟩
theorem aLr:uS Tryz.prog 55 (TSl vT):=pX (by kernel_rfl) (by kernel_rfl) aOp
theorem aLs:TE Tryz.prog 4 57 eM:=aLm (a:=54) (b:=3) (c:=23) (e:=55) (by kernel_rfl) (wJ (by kernel_rfl)) rU HC aLr
theorem aGn:uS Tryz.prog 22 (TSl eM):=pX (by kernel_rfl) (by kernel_rfl) aLs
theorem aLt:TE Tryz.prog 4 26 eN:=aLm (a:=22) (b:=23) (c:=3) (e:=24) (by kernel_rfl) aGn HC rU aLq
theorem aGo (D:Nat) (xs:List AV) (h:fK Tryz.prog D 33 xs) (hl:xs.length=12):∃ os ts us is no os' ts' us' is' no' d g,xs=[os,ts,us,is,no,os',ts',us',is',no',d,g]/\SG os ts us is no os' ts' us' is' no' d g:=by
 cases D with
 | zero=>exact h.elim
 | succ D=>
   have hf:AB Tryz.prog 33=some [(30,some (some 5),0),(30,some (some 5),5),(31,some none,10),(31,some none,11)]:=by kernel_rfl
   have hs:=gZ hf h
   match xs,hl with
   | [x0,x1,x2,x3,x4,x5,x6,x7,x8,x9,x10,x11],_=>
     obtain ⟨k1,e1,h1⟩:=hs _ (List.mem_cons_self ..)
     obtain ⟨k2,e2,h2⟩:=hs _ (List.mem_cons_of_mem _ (List.mem_cons_self ..))
     obtain ⟨k3,e3,h3⟩:=hs _ (List.mem_cons_of_mem _ (List.mem_cons_of_mem _ (List.mem_cons_self ..)))
     obtain ⟨k4,e4,h4⟩:=hs _ (List.mem_cons_of_mem _ (List.mem_cons_of_mem _ (List.mem_cons_of_mem _ (List.mem_cons_self ..))))
     cases e1;cases e2;cases e3;cases e4
     obtain ⟨_,_,_,_,_,q1,a1,a2,a3,a4,a5⟩:=aLp D [x0,x1,x2,x3,x4] h1 rfl
     obtain ⟨_,_,_,_,_,q2,b1,b2,b3,b4,b5⟩:=aLp D [x5,x6,x7,x8,x9] h2 rfl
     obtain ⟨_,q3,w3⟩:=TF _ _ h3
     obtain ⟨_,q4,w4⟩:=TF _ _ h4
     cases q1;cases q2;cases q3;cases q4
     exact ⟨_,_,_,_,_,_,_,_,_,_,_,_,rfl,⟨a1,a2,a3,a4,a5⟩,⟨b1,b2,b3,b4,b5⟩,w3,w4⟩
theorem CA {o:AV} (h:qB o=true):AP o:=by
 simp only [qB,jT,Bool.and_eq_true,decide_eq_true_eq,List.all_eq_true]at h
 refine ⟨by omega,by omega,fun f hf=>?_⟩
 have:=h.2.2 f hf
 simp only [wV,jT,Bool.and_eq_true,decide_eq_true_eq]at this
 exact ⟨by omega,by omega⟩
section
variable {p os ts us is no os' ts' us' is' no' d g:AV}
theorem aAk (hp:eN p) (h:SG os ts us is no os' ts' us' is' no' d g) (h1:fO (p.fld 0).els (p.fld 1).els (p.fld 3).els=true) (h2:mR os ts us is no os' ts' us' is' no' d g=true):PS p os ts us is no os' ts' us' is' no' d g:=by
 simp only [fO,Bool.and_eq_true,decide_eq_true_eq]at h1
 simp only [mR,fN,Bool.and_eq_true,decide_eq_true_eq,List.all_eq_true]at h2
 obtain ⟨⟨a1,a2,a3,a4,a5⟩,⟨b1,b2,b3,b4,b5⟩,c1,c2⟩:=h2
 exact ⟨hp,(by show _<=1000;omega),⟨h,by omega,by omega,by omega,by omega,by omega,by omega,by omega,by omega,by omega,by omega⟩,fun o ho=>CA (a5 o ho),fun o ho=>CA (b5 o ho)⟩
theorem PA (hp:eN p):Abs.Returns Tryz.prog 6 [p] (.bool (fO (p.fld 0).els (p.fld 1).els (p.fld 3).els)):=by
 obtain ⟨ns,fs,mm,cs,rfl,a1,a2,a3,a4⟩:=hp
 exact HO ⟨a1,a2,a3,a4⟩
abbrev tN:List AV->Option AV:=sR eN fun p=>.bool (fO (p.fld 0).els (p.fld 1).els (p.fld 3).els)
theorem smallPV_ok:Abs.Ok Tryz.prog 6 tN:=yJ fun a h=>PA h
def rV (a:AV):Prop:=∃ os ts us is no os' ts' us' is' no' d g,a=mQ os ts us is no os' ts' us' is' no' d g/\SG os ts us is no os' ts' us' is' no' d g
abbrev AZ:List AV->Option AV:=sR rV fun a=>.bool (mR (a.fld 0) (a.fld 1) (a.fld 2) (a.fld 3) (a.fld 4) (a.fld 5) (a.fld 6) (a.fld 7) (a.fld 8) (a.fld 9) (a.fld 10) (a.fld 11))
theorem smallSV_ok:Abs.Ok Tryz.prog 7 AZ:=yJ fun a ⟨os,ts,us,is,no,os',ts',us',is',no',d,g,e,h⟩=>by
 subst e;exact EU h
abbrev vF:List AV->Option AV:=fun l=>if l=[] then some (.bool true) else none
theorem tP (hk:Abs.Returns Tryz.prog 8 [] (.bool true)):Abs.Ok Tryz.prog 8 vF:=fun args v h=>by
 unfold vF at h
 split at h
 ·rename_i e;subst e;cases h;exact hk
 ·cases h
end
end
end Go.Proofs.YtkocnhkbgcjpbaaGreat
