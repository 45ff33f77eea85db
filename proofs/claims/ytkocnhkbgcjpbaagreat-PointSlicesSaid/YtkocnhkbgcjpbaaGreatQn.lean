/-
  Points: the program's check of a state.
-/
import Derived.Test.YtkocnhkbgcjpbaaGreatQi
import Derived.Test.YtkocnhkbgcjpbaaGreatQh
import Derived.Test.YtkocnhkbgcjpbaaGreatPa
import Derived.Test.YtkocnhkbgcjpbaaGreatEz
import Derived.Test.YtkocnhkbgcjpbaaGreatOh
set_option linter.unusedVariables false
set_option linter.unusedSimpArgs false
namespace Go.Proofs.YtkocnhkbgcjpbaaGreat
open Go.Abs Go Go.Abs.TryzF
noncomputable section
set_option maxRecDepth 10000
section
variable {p os ts us is no os' ts' us' is' no' d g:AV}
def aAr (p os ts us is no os' ts' us' is' no' d g:AV) (args:List AV) (s:Sto) (res:CRes):Prop:=∃ S v,args=[p,lE os ts us is no os' ts' us' is' no' d g]/\res=.ret v (some S)/\aBf p os ts us is no os' ts' us' is' no' d g s S v/\bG Tryz.prog 29 args s res
theorem PK (hp:gG p) (h:SGL os ts us is no os' ts' us' is' no' d g) (hso:∀ o∈os.els,yP o) (hso':∀ o∈os'.els,yP o) (s:Sto):∃ res,aAr p os ts us is no os' ts' us' is' no' d g [p,lE os ts us is no os' ts' us' is' no' d g] s res:=by
 obtain ⟨S,v,⟨h1,h2⟩,h3⟩:=aBh hp h hso hso' s;refine ⟨_,{S with low:=Nat.min s.low S.low},v,rfl,rfl,⟨⟨h1.1,fun id hid=>h1.2 id hid⟩,?_⟩,h3⟩
 rcases h2 with ⟨q1,id,q2,q3⟩ | h2
 ·exact .inl ⟨q1,id,q2,q3.sim (Sim.low S _)⟩
 ·exact .inr h2
structure PS (p os ts us is no os' ts' us' is' no' d g:AV):Prop where
 hp:gG p
 hm:SmP p
 hs:SGL os ts us is no os' ts' us' is' no' d g
 hso:∀ o∈os.els,yP o
 hso':∀ o∈os'.els,yP o
abbrev LO (p os ts us is no os' ts' us' is' no' d g:AV):List kS:=[jG 29 (aAr p os ts us is no os' ts' us' is' no' d g)]
theorem PS.und (h:PS p os ts us is no os' ts' us' is' no' d g):∀ x∈[p,lE os ts us is no os' ts' us' is' no' d g],Und 0 x:=aA (dK p h.hp).1.und (aA h.hs.und.und aD)
end
theorem mL (l:List AV):(bN l).els=l:=by
 unfold bN;split
 ·rename_i h;rw [List.length_eq_zero_iff.1 h];rfl
 ·rfl
theorem BD (f:AV):(tR f).fld 0=f.fld 0/\((tR f).fld 1).els=(f.fld 1).els/\((tR f).fld 2).els=(f.fld 2).els:=⟨rfl,mL _,mL _⟩
theorem HH (o:AV):(cD o).fld 0=o.fld 0/\(cD o).fld 1=o.fld 1/\((cD o).fld 2).els=(o.fld 2).els/\((cD o).fld 3).els=(o.fld 3).els.map tR:=⟨rfl,rfl,mL _,mL _⟩
theorem aLw {ns:List AV} {nf no:Int} (f:AV):MI ns nf no (tR f)=MI ns nf no f:=by
 obtain ⟨h1,h2,h3⟩:=BD f;rw [MI,MI,h1,h2,h3]
theorem aAs {ns:List AV} (f:AV):gL ns (tR f)=gL ns f:=by
 obtain ⟨h1,h2,h3⟩:=BD f;rw [gL,gL,h1,h3]
theorem CL {ns:List AV} {nf no:Int} {fs:List AV} {last:Int}:eG ns nf no (fs.map tR) last=eG ns nf no fs last:=by
 rw [eG,eG,nY,nY,List.length_map,List.all_map,<-List.map_take,List.all_map];have e1:(MI ns nf no ∘ tR)=MI ns nf no:=funext aLw;have e2:(gL ns ∘ tR)=gL ns:=funext aAs;rw [e1,e2]
theorem aAt {ns:List AV} {nf no n:Int} {vs fs:List AV}:kT ns nf no n vs (fs.map tR)=kT ns nf no n vs fs:=by
 simp only [kT,List.length_map,CL]
theorem aGw {ns cs:List AV} {nf no k n:Int} {vs fs:List AV}:kQ ns cs nf no k n vs (fs.map tR)=kQ ns cs nf no k n vs fs:=by
 have h:((fs.map tR).getD 0 .top).fld 0=(fs.getD 0 .top).fld 0:=by cases fs<;>rfl
 simp only [kQ,List.length_map,CL,aAt,h]
theorem aGx {ns cs:List AV} {nf no:Int} (o:AV):xG ns cs nf no (cD o)=xG ns cs nf no o:=by
 obtain ⟨h1,h2,h3,h4⟩:=HH o;rw [xG,xG,h1,h2,h3,h4,aGw]
theorem TT {os:List AV} {k:Nat}:((os.map cD).getD k .top).fld 0=(os.getD k .top).fld 0:=by
 rw [List.getD_eq_getElem?_getD,List.getD_eq_getElem?_getD,List.getElem?_map];cases os[k]?<;>rfl
theorem WB {os:List AV} {k:Int}:iH (os.map cD) k=iH os k:=by rw [iH,iH,List.length_map,TT]
theorem KU {os:List AV}:∀ (l pre:List AV),kA (os.map cD) pre l=kA os pre l
 | [],_=>rfl
 | x::l,pre=>by rw [kA,kA,WB,KU l]
theorem aAu {os ts:List AV} (x:AV):jO (os.map cD) ts x=jO os ts x:=by rw [jO,jO,TT]
theorem WC {os ts:List AV}:kV (os.map cD) ts=kV os ts:=by
 rw [kV,kV,KU,List.length_map,show jO (os.map cD) ts=jO os ts from funext aAu]
theorem WD {ns cs:List AV} {nf:Int} {os ts us is:List AV} {n:Int}:kW ns cs nf (os.map cD) ts us is n=kW ns cs nf os ts us is n:=by
 rw [kW,kW,List.length_map,List.all_map,show (xG ns cs nf os.length ∘ cD)=xG ns cs nf os.length from funext aGx,WC]
theorem aGy (f g:AV):mC (tR f) g=mC f g:=by
 obtain ⟨h1,h2,h3⟩:=BD f;rw [mC,mC,h1,h2,h3]
theorem aGz (f g:AV):mC f (tR g)=mC f g:=by
 obtain ⟨h1,h2,h3⟩:=BD g;rw [mC,mC,h1,h2,h3]
theorem KV:∀ (a b:List AV),dL (a.map tR) b=dL a b
 | [],[]=>rfl
 | [],_::_=>rfl
 | _::_,[]=>rfl
 | x::a,y::b=>by rw [List.map_cons,dL,dL,aGy,KV a b]
theorem KW:∀ (a b:List AV),dL a (b.map tR)=dL a b
 | [],[]=>rfl
 | [],_::_=>rfl
 | _::_,[]=>rfl
 | x::a,y::b=>by rw [List.map_cons,dL,dL,aGz,KW a b]
theorem wG (a b:AV):eC (cD a) b=eC a b:=by
 obtain ⟨h1,h2,h3,h4⟩:=HH a;rw [eC,eC,h1,h2,h3,h4,KV]
theorem aHa (a b:AV):eC a (cD b)=eC a b:=by
 obtain ⟨h1,h2,h3,h4⟩:=HH b;rw [eC,eC,h1,h2,h3,h4,KW]
theorem lI {xs:List AV} {i:Nat} (h:i<xs.length):(xs.map cD).getD i .top=cD (xs.getD i .top):=by
 rw [List.getD_eq_getElem?_getD,List.getD_eq_getElem?_getD,List.getElem?_map,List.getElem?_eq_getElem h];rfl
theorem aAv {xo' xo xd xg:List AV} (h:xo'.length<=xo.length) (i:Nat):gK (xo'.map cD) (xo.map cD) xd xg i=gK xo' xo xd xg i:=by
 unfold gK;rw [List.length_map];by_cases k:xo'.length<=i
 ·rw [if_pos k,if_pos k]
 ·rw [if_neg k,if_neg k,lI (by omega),lI (by omega),wG,aHa,zX,zX,wG]
theorem HJ {xo xo' xd:List AV} (h:xo'.length<=xo.length):mT (xo.map cD) (xo'.map cD) xd=((dY xo xo' xd xo'.length).map cD).map cD:=by
 rw [mT,dY,List.length_map,List.map_map,List.map_map]
 refine List.map_congr_left fun i hi=>?_
 have hi':i<xo'.length:=List.mem_range.1 hi;rw [lI hi',lI (by omega)];show (if pG xd i=true then cD (cD (xo'.getD i .top)) else cD (cD (xo.getD i .top)))=cD (cD (if pG xd i=true then xo'.getD i .top else xo.getD i .top));cases pG xd i<;>rfl
section
variable {p os ts us is no os' ts' us' is' no' d g:AV}
theorem WE (h:SGL os ts us is no os' ts' us' is' no' d g) (hl:os'.els.length<=os.els.length):vM p (lT os os' d ts' us' is' no')=vM p (kO os os' d ts' us' is' no'):=by
 have e:∀ {T:AV->Prop} {a:AV},TSl T a->(aJ (aJ a)).els=(bN a.els).els:=fun h=>by rw [eV (bF h),eV h,mL]
 show kW _ _ _ (bN (mT _ _ _)).els (aJ (aJ ts')).els (aJ (aJ us')).els (aJ (aJ is')).els no'.num=kW _ _ _ (bN (dY _ _ _ _)).els (bN ts'.els).els (bN us'.els).els (bN is'.els).els no'.num;simp only [e h.s.ts,e h.s.us,e h.s.is,mL,HJ hl,WD]
theorem wH (hp:gG p) (w:AV):(mZ p&&vM p w)=(kP p&&qC p w):=by
 obtain ⟨ns,fs,mm,cs,rfl,a1,a2,a3,a4⟩:=hp;exact aHl (bO a4)
theorem aHb (h:PS p os ts us is no os' ts' us' is' no' d g):wK p os ts us is no os' ts' us' is' no' d g=(kP p&&jH p os ts us is no os' ts' us' is' no' d g):=by
 obtain ⟨hp,hm,hs,hso,hso'⟩:=h;rw [wK,jH,wH hp,wH hp];by_cases k1:os'.els.length<=os.els.length
 rotate_left
 ·rw [jI,decide_eq_false k1,Bool.false_and,Bool.false_and,Bool.and_false,Bool.false_and,Bool.and_false,Bool.and_false]
 by_cases k3:g.els.length=os.els.length
 rotate_left
 ·rw [jI,decide_eq_false k3];simp
 have e:qC p (lT os os' d ts' us' is' no')=qC p (kO os os' d ts' us' is' no')∨kP p=false:=by
  cases hr:kP p with
  | false=>exact .inr rfl
  | true=>
    left;have h1:=wH hp (lT os os' d ts' us' is' no');have h2:=wH hp (kO os os' d ts' us' is' no');rw [WE hs k1]at h1;rw [hr,Bool.true_and]at h1 h2;exact h1.symm.trans h2
 rw [show gK (os'.els.map cD) (os.els.map cD) d.els g.els=gK os'.els os.els d.els g.els from funext (aAv k1),jI,k3]
 rcases e with e | e
 ·rw [e]
  cases kP p<;>cases qC p (wg os ts us is no)<;>cases (List.range' 0 os.els.length).all (gK os'.els os.els d.els g.els)<;>cases qC p (kO os os' d ts' us' is' no')<;>simp
 ·simp [e]
end
end
end Go.Proofs.YtkocnhkbgcjpbaaGreat
/-
 Arguments of laws: programs,worlds and states,by their types.
-/
namespace Go.Abs
noncomputable section
variable {P:Program}
def uS (P:Program) (t:TypeId) (T:AV->Prop):Prop:=∀ d xs,fP P d t xs->∃ a,xs=[a]/\T a
def TU (P:Program) (k:Nat) (t:TypeId) (T:AV->Prop):Prop:=∀ d xs,fP P d t xs->xs.length=k->T (.agg xs)
theorem wI {t:TypeId} (hu:P.underlying t=some (.int .i64)):uS P t cS:=fun d xs h=>by
 cases d with
 | zero=>exact h.elim
 | succ d=>obtain ⟨n,rfl,_⟩:=XN hu h;exact ⟨_,rfl,n,rfl⟩
theorem aAw {t:TypeId} (hu:P.underlying t=some .bool):uS P t oD:=fun d xs h=>by
 cases d with
 | zero=>exact h.elim
 | succ d=>obtain ⟨b,rfl⟩:=RD hu h;exact ⟨_,rfl,b,rfl⟩
theorem aHc {t:TypeId} (hu:P.underlying t=some .string):uS P t rW:=fun d xs h=>by
 cases d with
 | zero=>exact h.elim
 | succ d=>obtain ⟨l,rfl,h1,h2⟩:=XO hu h;exact ⟨_,rfl,l,rfl,h1,h2⟩
theorem aAx {t e:TypeId} {T:AV->Prop} (hu:P.underlying t=some (.slice e)) (hk:tyK P e=some none) (he:uS P e T):uS P t (TSl T):=fun d xs h=>by
 cases d with
 | zero=>exact h.elim
 | succ d=>
   obtain ⟨a,ys,rfl,hs,hy⟩:=sW (f:=id) (p:=T) hu hk (fun x h1 _ _=>by obtain ⟨a,rfl,ha⟩:=he _ _ h1;exact ⟨a,rfl,ha⟩) h;exact ⟨a,rfl,ys,by rw [List.map_id]at hs;exact hs,hy⟩
theorem qF {t e:TypeId} {k:Nat} {T:AV->Prop} (hu:P.underlying t=some (.slice e)) (hk:tyK P e=some (some k)) (he:TU P k e T):uS P t (TSl T):=fun d xs h=>by
 cases d with
 | zero=>exact h.elim
 | succ d=>
   obtain ⟨a,ys,rfl,hs,hy⟩:=sW (f:=id) (p:=T) hu hk (fun x h1 h2 _=>⟨.agg x,rfl,he _ _ h1 h2⟩) h;exact ⟨a,rfl,ys,by rw [List.map_id]at hs;exact hs,hy⟩
theorem aLx {t a b:TypeId} {A B:AV->Prop} (hf:AG P t=some [(a,some none,0),(b,some none,1)]) (ha:uS P a A) (hb:uS P b B):TU P 2 t (T2 A B):=fun d xs h hl=>by
 cases d with
 | zero=>exact h.elim
 | succ d=>
   have hs:=gY hf h
   match xs,hl with
   | [x,y],_=>
     obtain ⟨k1,e1,h1⟩:=hs _ (List.mem_cons_self ..);obtain ⟨k2,e2,h2⟩:=hs _ (List.mem_cons_of_mem _ (List.mem_cons_self ..));cases e1;cases e2;obtain ⟨_,q1,w1⟩:=ha _ _ h1;obtain ⟨_,q2,w2⟩:=hb _ _ h2;cases q1;cases q2;exact ⟨_,_,rfl,w1,w2⟩
theorem aRk {t a b c:TypeId} {A B C:AV->Prop} (hf:AG P t=some [(a,some none,0),(b,some none,1),(c,some none,2)]) (ha:uS P a A) (hb:uS P b B) (hc:uS P c C):TU P 3 t (T3 A B C):=fun d xs h hl=>by
 cases d with
 | zero=>exact h.elim
 | succ d=>
   have hs:=gY hf h
   match xs,hl with
   | [x,y,z],_=>
     obtain ⟨k1,e1,h1⟩:=hs _ (List.mem_cons_self ..);obtain ⟨k2,e2,h2⟩:=hs _ (List.mem_cons_of_mem _ (List.mem_cons_self ..));obtain ⟨k3,e3,h3⟩:=hs _ (List.mem_cons_of_mem _ (List.mem_cons_of_mem _ (List.mem_cons_self ..)));cases e1;cases e2;cases e3;obtain ⟨_,q1,w1⟩:=ha _ _ h1;obtain ⟨_,q2,w2⟩:=hb _ _ h2;obtain ⟨_,q3,w3⟩:=hc _ _ h3;cases q1;cases q2;cases q3;exact ⟨_,_,_,rfl,w1,w2,w3⟩
theorem aLy {t a b c e:TypeId} {A B C E:AV->Prop} (hf:AG P t=some [(a,some none,0),(b,some none,1),(c,some none,2),(e,some none,3)]) (ha:uS P a A) (hb:uS P b B) (hc:uS P c C) (he:uS P e E):TU P 4 t (T4 A B C E):=fun d xs h hl=>by
 cases d with
 | zero=>exact h.elim
 | succ d=>
   have hs:=gY hf h
   match xs,hl with
   | [x,y,z,u],_=>
     obtain ⟨k1,e1,h1⟩:=hs _ (List.mem_cons_self ..);obtain ⟨k2,e2,h2⟩:=hs _ (List.mem_cons_of_mem _ (List.mem_cons_self ..));obtain ⟨k3,e3,h3⟩:=hs _ (List.mem_cons_of_mem _ (List.mem_cons_of_mem _ (List.mem_cons_self ..)));obtain ⟨k4,e4,h4⟩:=hs _ (List.mem_cons_of_mem _ (List.mem_cons_of_mem _ (List.mem_cons_of_mem _ (List.mem_cons_self ..))));cases e1;cases e2;cases e3;cases e4;obtain ⟨_,q1,w1⟩:=ha _ _ h1;obtain ⟨_,q2,w2⟩:=hb _ _ h2;obtain ⟨_,q3,w3⟩:=hc _ _ h3;obtain ⟨_,q4,w4⟩:=he _ _ h4;cases q1;cases q2;cases q3;cases q4;exact ⟨_,_,_,_,rfl,w1,w2,w3,w4⟩
theorem aRl {t a b c e f:TypeId} {A B C E F:AV->Prop} (hf:AG P t=some [(a,some none,0),(b,some none,1),(c,some none,2),(e,some none,3),(f,some none,4)]) (ha:uS P a A) (hb:uS P b B) (hc:uS P c C) (he:uS P e E) (hff:uS P f F):TU P 5 t (T5 A B C E F):=fun d xs h hl=>by
 cases d with
 | zero=>exact h.elim
 | succ d=>
   have hs:=gY hf h
   match xs,hl with
   | [x,y,z,u,v],_=>
     obtain ⟨k1,e1,h1⟩:=hs _ (List.mem_cons_self ..);obtain ⟨k2,e2,h2⟩:=hs _ (List.mem_cons_of_mem _ (List.mem_cons_self ..));obtain ⟨k3,e3,h3⟩:=hs _ (List.mem_cons_of_mem _ (List.mem_cons_of_mem _ (List.mem_cons_self ..)));obtain ⟨k4,e4,h4⟩:=hs _ (List.mem_cons_of_mem _ (List.mem_cons_of_mem _ (List.mem_cons_of_mem _ (List.mem_cons_self ..))));obtain ⟨k5,e5,h5⟩:=hs _ (List.mem_cons_of_mem _ (List.mem_cons_of_mem _ (List.mem_cons_of_mem _ (List.mem_cons_of_mem _ (List.mem_cons_self ..)))));cases e1;cases e2;cases e3;cases e4;cases e5;obtain ⟨_,q1,w1⟩:=ha _ _ h1;obtain ⟨_,q2,w2⟩:=hb _ _ h2;obtain ⟨_,q3,w3⟩:=hc _ _ h3;obtain ⟨_,q4,w4⟩:=he _ _ h4;obtain ⟨_,q5,w5⟩:=hff _ _ h5;cases q1;cases q2;cases q3;cases q4;cases q5;exact ⟨_,_,_,_,_,rfl,w1,w2,w3,w4,w5⟩
end
end Go.Abs
namespace Go.Proofs.YtkocnhkbgcjpbaaGreat
open Go.Abs Go Go.Abs.TryzF
noncomputable section
set_option maxRecDepth 10000
theorem rO:uS Tryz.prog 3 cS:=wI (by kernel_rfl)
theorem aLz:uS Tryz.prog 4 oD:=aAw (by kernel_rfl)
theorem aKo:uS Tryz.prog 9 rW:=aHc (by kernel_rfl)
theorem HK:uS Tryz.prog 23 dU:=aAx (by kernel_rfl) (by kernel_rfl) rO
theorem TV:uS Tryz.prog 31 qL:=aAx (by kernel_rfl) (by kernel_rfl) aLz
theorem aOz:TU Tryz.prog 2 66 zF:=aLx (a:=64) (b:=3) (by kernel_rfl) (wI (by kernel_rfl)) rO
theorem PL:uS Tryz.prog 82 iA:=qF (by kernel_rfl) (by kernel_rfl) aOz
theorem aRm:TU Tryz.prog 3 93 UN:=aRk (a:=3) (b:=82) (c:=82) (by kernel_rfl) rO PL PL
theorem aPa:uS Tryz.prog 83 xL:=qF (by kernel_rfl) (by kernel_rfl) aRm
theorem aRn:TU Tryz.prog 4 85 nG:=aLy (a:=81) (b:=3) (c:=82) (e:=83) (by kernel_rfl) (wI (by kernel_rfl)) rO PL aPa
theorem aPb:uS Tryz.prog 27 (TSl nG):=qF (by kernel_rfl) (by kernel_rfl) aRn
theorem aPc:TU Tryz.prog 2 134 nH:=aLx (a:=3) (b:=3) (by kernel_rfl) rO rO
theorem aMa:uS Tryz.prog 28 (TSl nH):=qF (by kernel_rfl) (by kernel_rfl) aPc
theorem aPd:TU Tryz.prog 5 30 UO:=aRl (a:=27) (b:=23) (c:=28) (e:=23) (f:=3) (by kernel_rfl) aPb HK aMa HK rO
theorem aPe:TU Tryz.prog 2 53 zG:=aLx (a:=9) (b:=3) (by kernel_rfl) aKo rO
theorem aMb:uS Tryz.prog 24 rR:=qF (by kernel_rfl) (by kernel_rfl) aPe
theorem aAy:∀ d xs,fP Tryz.prog d 61 xs->xs.length=4->TPatN d (.agg xs)
 | 0,_,h,_=>h.elim
 | d+1,xs,h,hl=>by
   have hf:AG Tryz.prog 61=some [(59,some none,0),(3,some none,1),(9,some none,2),(55,some none,3)]:=by kernel_rfl
   have hs:=gY hf h
   match xs,hl with
   | [x,y,z,u],_=>
     obtain ⟨k1,e1,h1⟩:=hs _ (List.mem_cons_self ..);obtain ⟨k2,e2,h2⟩:=hs _ (List.mem_cons_of_mem _ (List.mem_cons_self ..));obtain ⟨k3,e3,h3⟩:=hs _ (List.mem_cons_of_mem _ (List.mem_cons_of_mem _ (List.mem_cons_self ..)));obtain ⟨k4,e4,h4⟩:=hs _ (List.mem_cons_of_mem _ (List.mem_cons_of_mem _ (List.mem_cons_of_mem _ (List.mem_cons_self ..))));cases e1;cases e2;cases e3;cases e4;obtain ⟨_,q1,w1⟩:=(wI (P:=Tryz.prog) (t:=59) (by kernel_rfl)) _ _ h1;obtain ⟨_,q2,w2⟩:=rO _ _ h2;obtain ⟨_,q3,w3⟩:=aKo _ _ h3;have h4':fP Tryz.prog d 55 [u]:=h4
     cases d with
     | zero=>exact h4'.elim
     | succ d=>
       obtain ⟨a,ys,e,hsl,hy⟩:=sW (f:=id) (p:=TPatN (d+1)) (t:=55) (e:=61) (k:=some 4) (by kernel_rfl) (by kernel_rfl) (fun x h1 h2 _=>⟨.agg x,rfl,TPatN.succ d _ (aAy d x h1 h2)⟩) h4';cases q1;cases q2;cases q3;cases e;rw [List.map_id]at hsl;exact ⟨_,_,_,_,rfl,w1,w2,w3,ys,hsl,hy⟩
theorem aPf:TU Tryz.prog 4 61 vQ:=fun d xs h hl=>⟨d,aAy d xs h hl⟩
theorem aMc:uS Tryz.prog 55 (TSl vQ):=qF (by kernel_rfl) (by kernel_rfl) aPf
theorem aMd:TU Tryz.prog 4 57 eO:=aLy (a:=54) (b:=3) (c:=23) (e:=55) (by kernel_rfl) (wI (by kernel_rfl)) rO HK aMc
theorem aHd:uS Tryz.prog 22 (TSl eO):=qF (by kernel_rfl) (by kernel_rfl) aMd
theorem aMe:TU Tryz.prog 4 26 gG:=aLy (a:=22) (b:=23) (c:=3) (e:=24) (by kernel_rfl) aHd HK rO aMb
theorem aHe (D:Nat) (xs:List AV) (h:fP Tryz.prog D 33 xs) (hl:xs.length=12):∃ os ts us is no os' ts' us' is' no' d g,xs=[os,ts,us,is,no,os',ts',us',is',no',d,g]/\SG os ts us is no os' ts' us' is' no' d g:=by
 cases D with
 | zero=>exact h.elim
 | succ D=>
   have hf:AG Tryz.prog 33=some [(30,some (some 5),0),(30,some (some 5),5),(31,some none,10),(31,some none,11)]:=by kernel_rfl
   have hs:=gY hf h
   match xs,hl with
   | [x0,x1,x2,x3,x4,x5,x6,x7,x8,x9,x10,x11],_=>
     obtain ⟨k1,e1,h1⟩:=hs _ (List.mem_cons_self ..);obtain ⟨k2,e2,h2⟩:=hs _ (List.mem_cons_of_mem _ (List.mem_cons_self ..));obtain ⟨k3,e3,h3⟩:=hs _ (List.mem_cons_of_mem _ (List.mem_cons_of_mem _ (List.mem_cons_self ..)));obtain ⟨k4,e4,h4⟩:=hs _ (List.mem_cons_of_mem _ (List.mem_cons_of_mem _ (List.mem_cons_of_mem _ (List.mem_cons_self ..))));cases e1;cases e2;cases e3;cases e4;obtain ⟨_,_,_,_,_,q1,a1,a2,a3,a4,a5⟩:=aPd D [x0,x1,x2,x3,x4] h1 rfl;obtain ⟨_,_,_,_,_,q2,b1,b2,b3,b4,b5⟩:=aPd D [x5,x6,x7,x8,x9] h2 rfl;obtain ⟨_,q3,w3⟩:=TV _ _ h3;obtain ⟨_,q4,w4⟩:=TV _ _ h4;cases q1;cases q2;cases q3;cases q4;exact ⟨_,_,_,_,_,_,_,_,_,_,_,_,rfl,⟨a1,a2,a3,a4,a5⟩,⟨b1,b2,b3,b4,b5⟩,w3,w4⟩
theorem KX {o:AV} (h:qK o=true):yP o:=by
 simp only [qK,jW,Bool.and_eq_true,decide_eq_true_eq,List.all_eq_true]at h;refine ⟨by omega,by omega,fun f hf=>?_⟩;have:=h.2.2 f hf;simp only [wY,jW,Bool.and_eq_true,decide_eq_true_eq]at this;exact ⟨by omega,by omega⟩
section
variable {p os ts us is no os' ts' us' is' no' d g:AV}
theorem aAz (hp:gG p) (h:SG os ts us is no os' ts' us' is' no' d g) (h1:fS (p.fld 0).els (p.fld 1).els (p.fld 3).els=true) (h2:mV os ts us is no os' ts' us' is' no' d g=true):PS p os ts us is no os' ts' us' is' no' d g:=by
 simp only [fS,Bool.and_eq_true,decide_eq_true_eq]at h1;simp only [mV,jX,Bool.and_eq_true,decide_eq_true_eq,List.all_eq_true]at h2;obtain ⟨⟨a1,a2,a3,a4,a5⟩,⟨b1,b2,b3,b4,b5⟩,c1,c2⟩:=h2;exact ⟨hp,(by show _<=1000;omega),⟨h,by omega,by omega,by omega,by omega,by omega,by omega,by omega,by omega,by omega,by omega⟩,fun o ho=>KX (a5 o ho),fun o ho=>KX (b5 o ho)⟩
theorem PM (hp:gG p):Abs.Returns Tryz.prog 6 [p] (.bool (fS (p.fld 0).els (p.fld 1).els (p.fld 3).els)):=by
 obtain ⟨ns,fs,mm,cs,rfl,a1,a2,a3,a4⟩:=hp;exact HX ⟨a1,a2,a3,a4⟩
abbrev wJ:List AV->Option AV:=sV gG fun p=>.bool (fS (p.fld 0).els (p.fld 1).els (p.fld 3).els)
theorem smallPV_ok:Abs.Ok Tryz.prog 6 wJ:=yQ fun a h=>PM h
def sF (a:AV):Prop:=∃ os ts us is no os' ts' us' is' no' d g,a=lE os ts us is no os' ts' us' is' no' d g/\SG os ts us is no os' ts' us' is' no' d g
abbrev BE:List AV->Option AV:=sV sF fun a=>.bool (mV (a.fld 0) (a.fld 1) (a.fld 2) (a.fld 3) (a.fld 4) (a.fld 5) (a.fld 6) (a.fld 7) (a.fld 8) (a.fld 9) (a.fld 10) (a.fld 11))
theorem smallSV_ok:Abs.Ok Tryz.prog 7 BE:=yQ fun a ⟨os,ts,us,is,no,os',ts',us',is',no',d,g,e,h⟩=>by
 subst e;exact FE h
abbrev yT:List AV->Option AV:=fun l=>if l=[] then some (.bool true) else none
theorem yU (hk:Abs.Returns Tryz.prog 8 [] (.bool true)):Abs.Ok Tryz.prog 8 yT:=fun args v h=>by
 unfold yT at h;split at h
 ·rename_i e;subst e;cases h;exact hk
 ·cases h
end
end
end Go.Proofs.YtkocnhkbgcjpbaaGreat
