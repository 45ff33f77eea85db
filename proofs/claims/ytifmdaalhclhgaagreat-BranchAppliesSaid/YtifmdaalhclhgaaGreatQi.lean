/-
  Points: what is done when a state is given up with.
-/
import Derived.Test.YtifmdaalhclhgaaGreatQe
import Derived.Test.YtifmdaalhclhgaaGreatEt
import Derived.Test.YtifmdaalhclhgaaGreatQh
import Derived.Test.YtifmdaalhclhgaaGreatPa
import Derived.Test.YtifmdaalhclhgaaGreatEz
import Derived.Test.YtifmdaalhclhgaaGreatOh
set_option linter.unusedVariables false
set_option linter.unusedSimpArgs false
namespace Go.Proofs.YtifmdaalhclhgaaGreat
open Go.Abs Go Go.Abs.TryzF
noncomputable section
set_option maxRecDepth 10000
end
end Go.Proofs.YtifmdaalhclhgaaGreat
/-
 Points: opening a state.
-/
namespace Go.Proofs.YtifmdaalhclhgaaGreat
open Go.Abs Go Go.Abs.TryzF
noncomputable section
set_option maxRecDepth 10000
def OpenAt (lo:Nat) (s:Sto) (id:Nat) (ns fs mm cs ts us is no ts' us' is' no':AV) (xo xo' xd xg:List AV):Prop:=∃ os os' d g a b c,s.get id=some (bA 0 (pst os (wF ts) (wF us) (wF is) no ns fs mm cs os' (wF ts') (wF us') (wF is') no' d g))/\
 StN lo a s os (xo.map dG)/\StN a b s os' (xo'.map dG)/\StN b c s d xd/\StN c id s g xg/\lo<=a/\a<=b/\b<=c/\c<=id
theorem OpenAt.sim {lo:Nat} {s s':Sto} {id:Nat} {ns fs mm cs ts us is no ts' us' is' no':AV} {xo xo' xd xg:List AV} (h:OpenAt lo s id ns fs mm cs ts us is no ts' us' is' no' xo xo' xd xg) (hs:Sim s s'):OpenAt lo s' id ns fs mm cs ts us is no ts' us' is' no' xo xo' xd xg:=by
 obtain ⟨os,os',d,g,a,b,c,h1,h2,h3,h4,h5,h6⟩:=h;exact ⟨os,os',d,g,a,b,c,hs.get h1,h2.sim hs,h3.sim hs,h4.sim hs,h5.sim hs,h6⟩
section
variable {p os ts us is no os' ts' us' is' no' d g:AV}
end
section
variable {p os ts us is no os' ts' us' is' no' d g:AV}
structure PS (p os ts us is no os' ts' us' is' no' d g:AV):Prop where
 hp:fL p
 hm:SmP p
 hs:SGL os ts us is no os' ts' us' is' no' d g
 hso:∀ o∈os.els,KR o
 hso':∀ o∈os'.els,KR o
theorem PS.und (h:PS p os ts us is no os' ts' us' is' no' d g):∀ x∈[p,stg os ts us is no os' ts' us' is' no' d g],Und 0 x:=aA (dK p h.hp).1.und (aA h.hs.und.und aF)
end
theorem nO (l:List AV):(bX l).els=l:=by
 unfold bX;split
 ·rename_i h;rw [List.length_eq_zero_iff.1 h];rfl
 ·rfl
theorem yL (f:AV):(sN f).fld 0=f.fld 0/\((sN f).fld 1).els=(f.fld 1).els/\((sN f).fld 2).els=(f.fld 2).els:=⟨rfl,nO _,nO _⟩
theorem DT (o:AV):(dG o).fld 0=o.fld 0/\(dG o).fld 1=o.fld 1/\((dG o).fld 2).els=(o.fld 2).els/\((dG o).fld 3).els=(o.fld 3).els.map sN:=⟨rfl,rfl,nO _,nO _⟩
theorem aHf {ns:List AV} {nf no:Int} (f:AV):IG ns nf no (sN f)=IG ns nf no f:=by
 obtain ⟨h1,h2,h3⟩:=yL f;rw [IG,IG,h1,h2,h3]
theorem WO {ns:List AV} (f:AV):fN ns (sN f)=fN ns f:=by
 obtain ⟨h1,h2,h3⟩:=yL f;rw [fN,fN,h1,h3]
theorem zF {ns:List AV} {nf no:Int} {fs:List AV} {last:Int}:dV ns nf no (fs.map sN) last=dV ns nf no fs last:=by
 rw [dV,dV,mJ,mJ,List.length_map,List.all_map,<-List.map_take,List.all_map];have e1:(IG ns nf no ∘ sN)=IG ns nf no:=funext aHf;have e2:(fN ns ∘ sN)=fN ns:=funext WO;rw [e1,e2]
theorem WP {ns:List AV} {nf no n:Int} {vs fs:List AV}:jM ns nf no n vs (fs.map sN)=jM ns nf no n vs fs:=by
 simp only [jM,List.length_map,zF]
theorem aCd {ns cs:List AV} {nf no k n:Int} {vs fs:List AV}:jK ns cs nf no k n vs (fs.map sN)=jK ns cs nf no k n vs fs:=by
 have h:((fs.map sN).getD 0 .top).fld 0=(fs.getD 0 .top).fld 0:=by cases fs<;>rfl
 simp only [jK,List.length_map,zF,WP,h]
theorem aCe {ns cs:List AV} {nf no:Int} (o:AV):uM ns cs nf no (dG o)=uM ns cs nf no o:=by
 obtain ⟨h1,h2,h3,h4⟩:=DT o;rw [uM,uM,h1,h2,h3,h4,aCd]
theorem PM {os:List AV} {k:Nat}:((os.map dG).getD k .top).fld 0=(os.getD k .top).fld 0:=by
 rw [List.getD_eq_getElem?_getD,List.getD_eq_getElem?_getD,List.getElem?_map];cases os[k]?<;>rfl
theorem RV {os:List AV} {k:Int}:gG (os.map dG) k=gG os k:=by rw [gG,gG,List.length_map,PM]
theorem HL {os:List AV}:∀ (l pre:List AV),iU (os.map dG) pre l=iU os pre l
 | [],_=>rfl
 | x::l,pre=>by rw [iU,iU,RV,HL l]
theorem WQ {os ts:List AV} (x:AV):iJ (os.map dG) ts x=iJ os ts x:=by rw [iJ,iJ,PM]
theorem RX {os ts:List AV}:jO (os.map dG) ts=jO os ts:=by
 rw [jO,jO,HL,List.length_map,show iJ (os.map dG) ts=iJ os ts from funext WQ]
theorem RY {ns cs:List AV} {nf:Int} {os ts us is:List AV} {n:Int}:kN ns cs nf (os.map dG) ts us is n=kN ns cs nf os ts us is n:=by
 rw [kN,kN,List.length_map,List.all_map,show (uM ns cs nf os.length ∘ dG)=uM ns cs nf os.length from funext aCe,RX]
theorem aCf (f g:AV):kU (sN f) g=kU f g:=by
 obtain ⟨h1,h2,h3⟩:=yL f;rw [kU,kU,h1,h2,h3]
theorem aCg (f g:AV):kU f (sN g)=kU f g:=by
 obtain ⟨h1,h2,h3⟩:=yL g;rw [kU,kU,h1,h2,h3]
theorem HM:∀ (a b:List AV),dE (a.map sN) b=dE a b
 | [],[]=>rfl
 | [],_::_=>rfl
 | _::_,[]=>rfl
 | x::a,y::b=>by rw [List.map_cons,dE,dE,aCf,HM a b]
theorem HN:∀ (a b:List AV),dE a (b.map sN)=dE a b
 | [],[]=>rfl
 | [],_::_=>rfl
 | _::_,[]=>rfl
 | x::a,y::b=>by rw [List.map_cons,dE,dE,aCg,HN a b]
theorem aCh (a b:AV):fX (dG a) b=fX a b:=by
 obtain ⟨h1,h2,h3,h4⟩:=DT a;rw [fX,fX,h1,h2,h3,h4,HM]
theorem aCi (a b:AV):fX a (dG b)=fX a b:=by
 obtain ⟨h1,h2,h3,h4⟩:=DT b;rw [fX,fX,h1,h2,h3,h4,HN]
section
variable {p os ts us is no os' ts' us' is' no' d g:AV}
end
end
end Go.Proofs.YtifmdaalhclhgaaGreat
/-
 Arguments of laws: programs,worlds and states,by their types.
-/
namespace Go.Abs
noncomputable section
variable {P:Program}
def tX (P:Program) (t:TypeId) (T:AV->Prop):Prop:=∀ d xs,fO P d t xs->∃ a,xs=[a]/\T a
def KQ (P:Program) (k:Nat) (t:TypeId) (T:AV->Prop):Prop:=∀ d xs,fO P d t xs->xs.length=k->T (.agg xs)
theorem uE {t:TypeId} (hu:P.underlying t=some (.int .i64)):tX P t cM:=fun d xs h=>by
 cases d with
 | zero=>exact h.elim
 | succ d=>obtain ⟨n,rfl,_⟩:=SX hu h;exact ⟨_,rfl,n,rfl⟩
theorem aCj {t:TypeId} (hu:P.underlying t=some .string):tX P t pY:=fun d xs h=>by
 cases d with
 | zero=>exact h.elim
 | succ d=>obtain ⟨l,rfl,h1,h2⟩:=SY hu h;exact ⟨_,rfl,l,rfl,h1,h2⟩
theorem aHg {t e:TypeId} {T:AV->Prop} (hu:P.underlying t=some (.slice e)) (hk:tyK P e=some none) (he:tX P e T):tX P t (TSl T):=fun d xs h=>by
 cases d with
 | zero=>exact h.elim
 | succ d=>
   obtain ⟨a,ys,rfl,hs,hy⟩:=qS (f:=id) (p:=T) hu hk (fun x h1 _ _=>by obtain ⟨a,rfl,ha⟩:=he _ _ h1;exact ⟨a,rfl,ha⟩) h;exact ⟨a,rfl,ys,by rw [List.map_id]at hs;exact hs,hy⟩
theorem mN {t e:TypeId} {k:Nat} {T:AV->Prop} (hu:P.underlying t=some (.slice e)) (hk:tyK P e=some (some k)) (he:KQ P k e T):tX P t (TSl T):=fun d xs h=>by
 cases d with
 | zero=>exact h.elim
 | succ d=>
   obtain ⟨a,ys,rfl,hs,hy⟩:=qS (f:=id) (p:=T) hu hk (fun x h1 h2 _=>⟨.agg x,rfl,he _ _ h1 h2⟩) h;exact ⟨a,rfl,ys,by rw [List.map_id]at hs;exact hs,hy⟩
theorem aHh {t a b:TypeId} {A B:AV->Prop} (hf:xT P t=some [(a,some none,0),(b,some none,1)]) (ha:tX P a A) (hb:tX P b B):KQ P 2 t (T2 A B):=fun d xs h hl=>by
 cases d with
 | zero=>exact h.elim
 | succ d=>
   have hs:=fV hf h
   match xs,hl with
   | [x,y],_=>
     obtain ⟨k1,e1,h1⟩:=hs _ (List.mem_cons_self ..);obtain ⟨k2,e2,h2⟩:=hs _ (List.mem_cons_of_mem _ (List.mem_cons_self ..));cases e1;cases e2;obtain ⟨_,q1,w1⟩:=ha _ _ h1;obtain ⟨_,q2,w2⟩:=hb _ _ h2;cases q1;cases q2;exact ⟨_,_,rfl,w1,w2⟩
theorem aNb {t a b c:TypeId} {A B C:AV->Prop} (hf:xT P t=some [(a,some none,0),(b,some none,1),(c,some none,2)]) (ha:tX P a A) (hb:tX P b B) (hc:tX P c C):KQ P 3 t (T3 A B C):=fun d xs h hl=>by
 cases d with
 | zero=>exact h.elim
 | succ d=>
   have hs:=fV hf h
   match xs,hl with
   | [x,y,z],_=>
     obtain ⟨k1,e1,h1⟩:=hs _ (List.mem_cons_self ..);obtain ⟨k2,e2,h2⟩:=hs _ (List.mem_cons_of_mem _ (List.mem_cons_self ..));obtain ⟨k3,e3,h3⟩:=hs _ (List.mem_cons_of_mem _ (List.mem_cons_of_mem _ (List.mem_cons_self ..)));cases e1;cases e2;cases e3;obtain ⟨_,q1,w1⟩:=ha _ _ h1;obtain ⟨_,q2,w2⟩:=hb _ _ h2;obtain ⟨_,q3,w3⟩:=hc _ _ h3;cases q1;cases q2;cases q3;exact ⟨_,_,_,rfl,w1,w2,w3⟩
theorem aHi {t a b c e:TypeId} {A B C E:AV->Prop} (hf:xT P t=some [(a,some none,0),(b,some none,1),(c,some none,2),(e,some none,3)]) (ha:tX P a A) (hb:tX P b B) (hc:tX P c C) (he:tX P e E):KQ P 4 t (T4 A B C E):=fun d xs h hl=>by
 cases d with
 | zero=>exact h.elim
 | succ d=>
   have hs:=fV hf h
   match xs,hl with
   | [x,y,z,u],_=>
     obtain ⟨k1,e1,h1⟩:=hs _ (List.mem_cons_self ..);obtain ⟨k2,e2,h2⟩:=hs _ (List.mem_cons_of_mem _ (List.mem_cons_self ..));obtain ⟨k3,e3,h3⟩:=hs _ (List.mem_cons_of_mem _ (List.mem_cons_of_mem _ (List.mem_cons_self ..)));obtain ⟨k4,e4,h4⟩:=hs _ (List.mem_cons_of_mem _ (List.mem_cons_of_mem _ (List.mem_cons_of_mem _ (List.mem_cons_self ..))));cases e1;cases e2;cases e3;cases e4;obtain ⟨_,q1,w1⟩:=ha _ _ h1;obtain ⟨_,q2,w2⟩:=hb _ _ h2;obtain ⟨_,q3,w3⟩:=hc _ _ h3;obtain ⟨_,q4,w4⟩:=he _ _ h4;cases q1;cases q2;cases q3;cases q4;exact ⟨_,_,_,_,rfl,w1,w2,w3,w4⟩
theorem aKn {t a b c e f:TypeId} {A B C E F:AV->Prop} (hf:xT P t=some [(a,some none,0),(b,some none,1),(c,some none,2),(e,some none,3),(f,some none,4)]) (ha:tX P a A) (hb:tX P b B) (hc:tX P c C) (he:tX P e E) (hff:tX P f F):KQ P 5 t (T5 A B C E F):=fun d xs h hl=>by
 cases d with
 | zero=>exact h.elim
 | succ d=>
   have hs:=fV hf h
   match xs,hl with
   | [x,y,z,u,v],_=>
     obtain ⟨k1,e1,h1⟩:=hs _ (List.mem_cons_self ..);obtain ⟨k2,e2,h2⟩:=hs _ (List.mem_cons_of_mem _ (List.mem_cons_self ..));obtain ⟨k3,e3,h3⟩:=hs _ (List.mem_cons_of_mem _ (List.mem_cons_of_mem _ (List.mem_cons_self ..)));obtain ⟨k4,e4,h4⟩:=hs _ (List.mem_cons_of_mem _ (List.mem_cons_of_mem _ (List.mem_cons_of_mem _ (List.mem_cons_self ..))));obtain ⟨k5,e5,h5⟩:=hs _ (List.mem_cons_of_mem _ (List.mem_cons_of_mem _ (List.mem_cons_of_mem _ (List.mem_cons_of_mem _ (List.mem_cons_self ..)))));cases e1;cases e2;cases e3;cases e4;cases e5;obtain ⟨_,q1,w1⟩:=ha _ _ h1;obtain ⟨_,q2,w2⟩:=hb _ _ h2;obtain ⟨_,q3,w3⟩:=hc _ _ h3;obtain ⟨_,q4,w4⟩:=he _ _ h4;obtain ⟨_,q5,w5⟩:=hff _ _ h5;cases q1;cases q2;cases q3;cases q4;cases q5;exact ⟨_,_,_,_,_,rfl,w1,w2,w3,w4,w5⟩
end
end Go.Abs
namespace Go.Proofs.YtifmdaalhclhgaaGreat
open Go.Abs Go Go.Abs.TryzF
noncomputable section
set_option maxRecDepth 10000
theorem nP:tX Tryz.prog 3 cM:=uE (by kernel_rfl)
theorem aFx:tX Tryz.prog 9 pY:=aCj (by kernel_rfl)
theorem zG:tX Tryz.prog 23 eU:=aHg (by kernel_rfl) (by kernel_rfl) nP
theorem aKo:KQ Tryz.prog 2 67 wK:=aHh (a:=65) (b:=3) (by kernel_rfl) (uE (by kernel_rfl)) nP
theorem LJ:tX Tryz.prog 73 fY:=mN (by kernel_rfl) (by kernel_rfl) aKo
theorem aNc:KQ Tryz.prog 3 109 QC:=aNb (a:=3) (b:=73) (c:=73) (by kernel_rfl) nP LJ LJ
theorem aKp:tX Tryz.prog 74 tL:=mN (by kernel_rfl) (by kernel_rfl) aNc
theorem aKq:KQ Tryz.prog 4 76 nC:=aHi (a:=72) (b:=3) (c:=73) (e:=74) (by kernel_rfl) (uE (by kernel_rfl)) nP LJ aKp
theorem aFy:tX Tryz.prog 27 (TSl nC):=mN (by kernel_rfl) (by kernel_rfl) aKq
theorem aKr:KQ Tryz.prog 2 146 lB:=aHh (a:=3) (b:=3) (by kernel_rfl) nP nP
theorem WR:tX Tryz.prog 28 (TSl lB):=mN (by kernel_rfl) (by kernel_rfl) aKr
theorem aNd:KQ Tryz.prog 5 30 oT:=aKn (a:=27) (b:=23) (c:=28) (e:=23) (f:=3) (by kernel_rfl) aFy zG WR zG nP
theorem aKs:KQ Tryz.prog 2 99 tN:=aHh (a:=9) (b:=3) (by kernel_rfl) aFx nP
theorem aHj:tX Tryz.prog 24 pU:=mN (by kernel_rfl) (by kernel_rfl) aKs
theorem WS:∀ d xs,fO Tryz.prog d 106 xs->xs.length=4->TPatN d (.agg xs)
 | 0,_,h,_=>h.elim
 | d+1,xs,h,hl=>by
   have hf:xT Tryz.prog 106=some [(104,some none,0),(3,some none,1),(9,some none,2),(100,some none,3)]:=by kernel_rfl
   have hs:=fV hf h
   match xs,hl with
   | [x,y,z,u],_=>
     obtain ⟨k1,e1,h1⟩:=hs _ (List.mem_cons_self ..);obtain ⟨k2,e2,h2⟩:=hs _ (List.mem_cons_of_mem _ (List.mem_cons_self ..));obtain ⟨k3,e3,h3⟩:=hs _ (List.mem_cons_of_mem _ (List.mem_cons_of_mem _ (List.mem_cons_self ..)));obtain ⟨k4,e4,h4⟩:=hs _ (List.mem_cons_of_mem _ (List.mem_cons_of_mem _ (List.mem_cons_of_mem _ (List.mem_cons_self ..))));cases e1;cases e2;cases e3;cases e4;obtain ⟨_,q1,w1⟩:=(uE (P:=Tryz.prog) (t:=104) (by kernel_rfl)) _ _ h1;obtain ⟨_,q2,w2⟩:=nP _ _ h2;obtain ⟨_,q3,w3⟩:=aFx _ _ h3;have h4':fO Tryz.prog d 100 [u]:=h4
     cases d with
     | zero=>exact h4'.elim
     | succ d=>
       obtain ⟨a,ys,e,hsl,hy⟩:=qS (f:=id) (p:=TPatN (d+1)) (t:=100) (e:=106) (k:=some 4) (by kernel_rfl) (by kernel_rfl) (fun x h1 h2 _=>⟨.agg x,rfl,TPatN.succ d _ (WS d x h1 h2)⟩) h4';cases q1;cases q2;cases q3;cases e;rw [List.map_id]at hsl;exact ⟨_,_,_,_,rfl,w1,w2,w3,ys,hsl,hy⟩
theorem aKt:KQ Tryz.prog 4 106 tM:=fun d xs h hl=>⟨d,WS d xs h hl⟩
theorem aHk:tX Tryz.prog 100 (TSl tM):=mN (by kernel_rfl) (by kernel_rfl) aKt
theorem aHl:KQ Tryz.prog 4 102 eF:=aHi (a:=64) (b:=3) (c:=23) (e:=100) (by kernel_rfl) (uE (by kernel_rfl)) nP zG aHk
theorem aCk:tX Tryz.prog 22 (TSl eF):=mN (by kernel_rfl) (by kernel_rfl) aHl
theorem aHm:KQ Tryz.prog 4 26 fL:=aHi (a:=22) (b:=23) (c:=3) (e:=24) (by kernel_rfl) aCk zG nP aHj
theorem zH {o:AV} (h:oO o=true):KR o:=by
 simp only [oO,iR,Bool.and_eq_true,decide_eq_true_eq,List.all_eq_true]at h;refine ⟨by omega,by omega,fun f hf=>?_⟩;have:=h.2.2 f hf;simp only [uH,iR,Bool.and_eq_true,decide_eq_true_eq]at this;exact ⟨by omega,by omega⟩
section
variable {p os ts us is no os' ts' us' is' no' d g:AV}
theorem LK (hp:fL p):Abs.Returns Tryz.prog 20 [p] (.bool (dY (p.fld 0).els (p.fld 1).els (p.fld 3).els)):=by
 obtain ⟨ns,fs,mm,cs,rfl,a1,a2,a3,a4⟩:=hp;exact EC ⟨a1,a2,a3,a4⟩
abbrev DU:List AV->Option AV:=qR fL fun p=>.bool (dY (p.fld 0).els (p.fld 1).els (p.fld 3).els)
theorem smallPV_ok:Abs.Ok Tryz.prog 20 DU:=vY fun a h=>LK h
def aHn (a:AV):Prop:=∃ os ts us is no os' ts' us' is' no' d g,a=stg os ts us is no os' ts' us' is' no' d g/\SG os ts us is no os' ts' us' is' no' d g
end
end
end Go.Proofs.YtifmdaalhclhgaaGreat
