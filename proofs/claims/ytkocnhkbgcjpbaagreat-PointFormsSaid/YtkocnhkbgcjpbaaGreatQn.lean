/-
  Points: the program's check of a state.
-/
import Derived.Test.YtkocnhkbgcjpbaaGreatQi
import Derived.Test.YtkocnhkbgcjpbaaGreatQh
import Derived.Test.YtkocnhkbgcjpbaaGreatPa
import Derived.Test.YtkocnhkbgcjpbaaGreatEz
import Derived.Test.YtkocnhkbgcjpbaaGreatOh
set_option linter.unusedVariables false
set_option linter.unusedSimpArgs false
namespace Go.Proofs.YtkocnhkbgcjpbaaGreat
open Go.Abs Go Go.Abs.TryzF
noncomputable section
set_option maxRecDepth 10000
section
variable {p os ts us is no os' ts' us' is' no' d g:AV}
def aGh (p os ts us is no os' ts' us' is' no' d g:AV) (args:List AV) (s:Sto) (res:CRes):Prop:=∃ S v,args=[p,uF os ts us is no os' ts' us' is' no' d g]/\res=.ret v (some S)/\WV p os ts us is no os' ts' us' is' no' d g s S v/\bE Tryz.prog 29 args s res
theorem LJ (hp:fR p) (h:SGL os ts us is no os' ts' us' is' no' d g) (hso:∀ o∈os.els,yD o) (hso':∀ o∈os'.els,yD o) (s:Sto):∃ res,aGh p os ts us is no os' ts' us' is' no' d g [p,uF os ts us is no os' ts' us' is' no' d g] s res:=by
 obtain ⟨S,v,⟨h1,h2⟩,h3⟩:=WY hp h hso hso' s
 refine ⟨_,{S with low:=Nat.min s.low S.low},v,rfl,rfl,⟨⟨h1.1,fun id hid=>h1.2 id hid⟩,?_⟩,h3⟩
 rcases h2 with ⟨q1,id,q2,q3⟩ | h2
 ·exact .inl ⟨q1,id,q2,q3.sim (Sim.low S _)⟩
 ·exact .inr h2
structure PS (p os ts us is no os' ts' us' is' no' d g:AV):Prop where
 hp:fR p
 hm:SmP p
 hs:SGL os ts us is no os' ts' us' is' no' d g
 hso:∀ o∈os.els,yD o
 hso':∀ o∈os'.els,yD o
abbrev LO (p os ts us is no os' ts' us' is' no' d g:AV):List kV:=[kS 29 (aGh p os ts us is no os' ts' us' is' no' d g)]
theorem aKk:∀ x∈LO p os ts us is no os' ts' us' is' no' d g,cJ Tryz.prog x:=elist_cons (iB fun _ _ _ h=>by obtain ⟨_,_,_,_,_,h⟩:=h;exact h) aG
theorem PS.und (h:PS p os ts us is no os' ts' us' is' no' d g):∀ x∈[p,uF os ts us is no os' ts' us' is' no' d g],Und 0 x:=aA (dV p h.hp).1.und (aA h.hs.und.und aF)
theorem WH (h:PS p os ts us is no os' ts' us' is' no' d g):Abs.Returns Tryz.prog 13 [p,uF os ts us is no os' ts' us' is' no' d g] (gC (uI p os ts us is no os' ts' us' is' no' d g)):=by
 have hu:=h.und
 obtain ⟨c1,c2,c3,c4,c5⟩:=h.hs.w.cells
 obtain ⟨c6,c7,c8,c9,c10⟩:=h.hs.s.cells
 obtain ⟨c11,c12⟩:=h.hs.cells
 obtain ⟨hp,hm,hs,hso,hso'⟩:=h
 have hq:∃ ns fs mm cs,p=.agg [ns,fs,mm,cs]/\ns.isCell=true/\fs.isCell=true/\mm.isCell=true/\cs.isCell=true:=by
  obtain ⟨ns,fs,mm,cs,rfl,a1,a2,a3,a4⟩:=hp
  exact ⟨ns,fs,mm,cs,rfl,(dM _ a1).2,(aP _ a2).2,(tu_int _ a3).2,(dN _ a4).2⟩
 refine aH (L:=LO p os ts us is no os' ts' us' is' no' d g) aKk aM (by kernel_rfl) Tryz.func13 Tryz.ntmps13 Tryz.results13 rfl rfl hu (by unfold gC;split<;>exact aV) ?_
 obtain ⟨res,⟨⟨n1,low1,o1⟩,v,_,rfl,⟨_,hv⟩,_⟩,he⟩:=uJ (f:=29) (LJ hp hs hso hso' ⟨2,0,(Tr.leaf.set 0 (bA 0 p.cells)).set 1 (bA 0 [os,ts,us,is,no,os',ts',us',is',no',d,g])⟩)
 obtain ⟨ns,fs,mm,cs,rfl,q1,q2,q3,q4⟩:=hq
 have he':aZ (LO (.agg [ns,fs,mm,cs]) os ts us is no os' ts' us' is' no' d g) 29 [.agg [ns,fs,mm,cs],.agg [os,ts,us,is,no,os',ts',us',is',no',d,g]] ⟨2,0,(Tr.leaf.set 0 (bA 0 [ns,fs,mm,cs])).set 1 (bA 0 [os,ts,us,is,no,os',ts',us',is',no',d,g])⟩=_:=he _
 clear he
 generalize hLL:LO (.agg [ns,fs,mm,cs]) os ts us is no os' ts' us' is' no' d g=LL at *
 unfold uF
 rcases hv with ⟨hB,id,rfl,_⟩ | ⟨hB,rfl⟩
 ·rw [hB]
  simp +contextual +decide (maxSteps:=1000000) only [↓ wP,wQ,tf,Nat.reduceAdd,wS,reduceCtorEq,c1,c2,c3,c4,c5,c6,c7,c8,c9,c10,c11,c12,q1,q2,q3,q4,he',gC]
 ·rw [hB]
  simp +contextual +decide (maxSteps:=1000000) only [↓ wP,wQ,tf,Nat.reduceAdd,wS,reduceCtorEq,c1,c2,c3,c4,c5,c6,c7,c8,c9,c10,c11,c12,q1,q2,q3,q4,he',gC]
end
end
end Go.Proofs.YtkocnhkbgcjpbaaGreat
/-
 THE PLAIN LAW of checks of states: both say the same.
-/
namespace Go.Proofs.YtkocnhkbgcjpbaaGreat
open Go.Abs Go Go.Abs.TryzF
noncomputable section
set_option maxRecDepth 10000
theorem lM (l:List AV):(bL l).els=l:=by
 unfold bL;split
 ·rename_i h;rw [List.length_eq_zero_iff.1 h];rfl
 ·rfl
theorem yJ (f:AV):(rQ f).fld 0=f.fld 0/\((rQ f).fld 1).els=(f.fld 1).els/\((rQ f).fld 2).els=(f.fld 2).els:=⟨rfl,lM _,lM _⟩
theorem DY (o:AV):(cS o).fld 0=o.fld 0/\(cS o).fld 1=o.fld 1/\((cS o).fld 2).els=(o.fld 2).els/\((cS o).fld 3).els=(o.fld 3).els.map rQ:=⟨rfl,rfl,lM _,lM _⟩
theorem aHq {ns:List AV} {nf no:Int} (f:AV):IY ns nf no (rQ f)=IY ns nf no f:=by
 obtain ⟨h1,h2,h3⟩:=yJ f
 rw [IY,IY,h1,h2,h3]
theorem WI {ns:List AV} (f:AV):fT ns (rQ f)=fT ns f:=by
 obtain ⟨h1,h2,h3⟩:=yJ f
 rw [fT,fT,h1,h3]
theorem zE {ns:List AV} {nf no:Int} {fs:List AV} {last:Int}:dU ns nf no (fs.map rQ) last=dU ns nf no fs last:=by
 rw [dU,dU,mT,mT,List.length_map,List.all_map,<-List.map_take,List.all_map]
 have e1:(IY ns nf no ∘ rQ)=IY ns nf no:=funext aHq
 have e2:(fT ns ∘ rQ)=fT ns:=funext WI
 rw [e1,e2]
theorem WJ {ns:List AV} {nf no n:Int} {vs fs:List AV}:jO ns nf no n vs (fs.map rQ)=jO ns nf no n vs fs:=by
 simp only [jO,List.length_map,zE]
theorem aCm {ns cs:List AV} {nf no k n:Int} {vs fs:List AV}:jL ns cs nf no k n vs (fs.map rQ)=jL ns cs nf no k n vs fs:=by
 have h:((fs.map rQ).getD 0 .top).fld 0=(fs.getD 0 .top).fld 0:=by cases fs<;>rfl
 simp only [jL,List.length_map,zE,WJ,h]
theorem aCn {ns cs:List AV} {nf no:Int} (o:AV):uS ns cs nf no (cS o)=uS ns cs nf no o:=by
 obtain ⟨h1,h2,h3,h4⟩:=DY o
 rw [uS,uS,h1,h2,h3,h4,aCm]
theorem PQ {os:List AV} {k:Nat}:((os.map cS).getD k .top).fld 0=(os.getD k .top).fld 0:=by
 rw [List.getD_eq_getElem?_getD,List.getD_eq_getElem?_getD,List.getElem?_map]
 cases os[k]?<;>rfl
theorem RV {os:List AV} {k:Int}:gL (os.map cS) k=gL os k:=by rw [gL,gL,List.length_map,PQ]
theorem HM {os:List AV}:∀ (l pre:List AV),iU (os.map cS) pre l=iU os pre l
 | [],_=>rfl
 | x::l,pre=>by rw [iU,iU,RV,HM l]
theorem WK {os ts:List AV} (x:AV):iS (os.map cS) ts x=iS os ts x:=by rw [iS,iS,PQ]
theorem RX {os ts:List AV}:jQ (os.map cS) ts=jQ os ts:=by
 rw [jQ,jQ,HM,List.length_map,show iS (os.map cS) ts=iS os ts from funext WK]
theorem RY {ns cs:List AV} {nf:Int} {os ts us is:List AV} {n:Int}:jR ns cs nf (os.map cS) ts us is n=jR ns cs nf os ts us is n:=by
 rw [jR,jR,List.length_map,List.all_map,show (uS ns cs nf os.length ∘ cS)=uS ns cs nf os.length from funext aCn,RX]
theorem aCo (f g:AV):mW (rQ f) g=mW f g:=by
 obtain ⟨h1,h2,h3⟩:=yJ f
 rw [mW,mW,h1,h2,h3]
theorem aCp (f g:AV):mW f (rQ g)=mW f g:=by
 obtain ⟨h1,h2,h3⟩:=yJ g
 rw [mW,mW,h1,h2,h3]
theorem HN:∀ (a b:List AV),dL (a.map rQ) b=dL a b
 | [],[]=>rfl
 | [],_::_=>rfl
 | _::_,[]=>rfl
 | x::a,y::b=>by rw [List.map_cons,dL,dL,aCo,HN a b]
theorem HO:∀ (a b:List AV),dL a (b.map rQ)=dL a b
 | [],[]=>rfl
 | [],_::_=>rfl
 | _::_,[]=>rfl
 | x::a,y::b=>by rw [List.map_cons,dL,dL,aCp,HO a b]
theorem PR (a b:AV):fP (cS a) b=fP a b:=by
 obtain ⟨h1,h2,h3,h4⟩:=DY a
 rw [fP,fP,h1,h2,h3,h4,HN]
theorem aCq (a b:AV):fP a (cS b)=fP a b:=by
 obtain ⟨h1,h2,h3,h4⟩:=DY b
 rw [fP,fP,h1,h2,h3,h4,HO]
theorem mV {xs:List AV} {i:Nat} (h:i<xs.length):(xs.map cS).getD i .top=cS (xs.getD i .top):=by
 rw [List.getD_eq_getElem?_getD,List.getD_eq_getElem?_getD,List.getElem?_map,List.getElem?_eq_getElem h];rfl
theorem WL {xo' xo xd xg:List AV} (h:xo'.length<=xo.length) (i:Nat):fS (xo'.map cS) (xo.map cS) xd xg i=fS xo' xo xd xg i:=by
 unfold fS
 rw [List.length_map]
 by_cases k:xo'.length<=i
 ·rw [if_pos k,if_pos k]
 ·rw [if_neg k,if_neg k,mV (by omega),mV (by omega),PR,aCq,xI,xI,PR]
theorem DZ {xo xo' xd:List AV} (h:xo'.length<=xo.length):lU (xo.map cS) (xo'.map cS) xd=((dI xo xo' xd xo'.length).map cS).map cS:=by
 rw [lU,dI,List.length_map,List.map_map,List.map_map]
 refine List.map_congr_left fun i hi=>?_
 have hi':i<xo'.length:=List.mem_range.1 hi
 rw [mV hi',mV (by omega)]
 show (if qG xd i=true then cS (cS (xo'.getD i .top)) else cS (cS (xo.getD i .top)))=cS (cS (if qG xd i=true then xo'.getD i .top else xo.getD i .top))
 cases qG xd i<;>rfl
section
variable {p os ts us is no os' ts' us' is' no' d g:AV}
theorem RZ (h:SGL os ts us is no os' ts' us' is' no' d g) (hl:os'.els.length<=os.els.length):tM p (kN os os' d ts' us' is' no')=tM p (jK os os' d ts' us' is' no'):=by
 have e:∀ {T:AV->Prop} {a:AV},TSl T a->(aQ (aQ a)).els=(bL a.els).els:=fun h=>by rw [nY (bM h),nY h,lM]
 show jR _ _ _ (bL (lU _ _ _)).els (aQ (aQ ts')).els (aQ (aQ us')).els (aQ (aQ is')).els no'.num=jR _ _ _ (bL (dI _ _ _ _)).els (bL ts'.els).els (bL us'.els).els (bL is'.els).els no'.num
 simp only [e h.s.ts,e h.s.us,e h.s.is,lM,DZ hl,RY]
theorem uG (hp:fR p) (w:AV):(mB p&&tM p w)=(kZ p&&oV p w):=by
 obtain ⟨ns,fs,mm,cs,rfl,a1,a2,a3,a4⟩:=hp
 exact aDc (jZ a4)
theorem aCr (h:PS p os ts us is no os' ts' us' is' no' d g):uI p os ts us is no os' ts' us' is' no' d g=(kZ p&&kY p os ts us is no os' ts' us' is' no' d g):=by
 obtain ⟨hp,hm,hs,hso,hso'⟩:=h
 rw [uI,kY,uG hp,uG hp]
 by_cases k1:os'.els.length<=os.els.length
 rotate_left
 ·rw [jN,decide_eq_false k1,Bool.false_and,Bool.false_and,Bool.and_false,Bool.false_and,Bool.and_false,Bool.and_false]
 by_cases k3:g.els.length=os.els.length
 rotate_left
 ·rw [jN,decide_eq_false k3];simp
 have e:oV p (kN os os' d ts' us' is' no')=oV p (jK os os' d ts' us' is' no')∨kZ p=false:=by
  cases hr:kZ p with
  | false=>exact .inr rfl
  | true=>
    left
    have h1:=uG hp (kN os os' d ts' us' is' no')
    have h2:=uG hp (jK os os' d ts' us' is' no')
    rw [RZ hs k1]at h1
    rw [hr,Bool.true_and]at h1 h2
    exact h1.symm.trans h2
 rw [show fS (os'.els.map cS) (os.els.map cS) d.els g.els=fS os'.els os.els d.els g.els from funext (WL k1),jN,k3]
 rcases e with e | e
 ·rw [e]
  cases kZ p<;>cases oV p (wg os ts us is no)<;>cases (List.range' 0 os.els.length).all (fS os'.els os.els d.els g.els)<;>cases oV p (jK os os' d ts' us' is' no')<;>simp [Bool.and_assoc]
 ·simp [e]
end
end
end Go.Proofs.YtkocnhkbgcjpbaaGreat
/-
 Arguments of laws: programs,worlds and states,by their types.
-/
namespace Go.Abs
noncomputable section
variable {P:Program}
def sR (P:Program) (t:TypeId) (T:AV->Prop):Prop:=∀ d xs,eU P d t xs->∃ a,xs=[a]/\T a
def PT (P:Program) (k:Nat) (t:TypeId) (T:AV->Prop):Prop:=∀ d xs,eU P d t xs->xs.length=k->T (.agg xs)
theorem uH {t:TypeId} (hu:P.underlying t=some (.int .i64)):sR P t cY:=fun d xs h=>by
 cases d with
 | zero=>exact h.elim
 | succ d=>obtain ⟨n,rfl,_⟩:=TI hu h;exact ⟨_,rfl,n,rfl⟩
theorem WM {t:TypeId} (hu:P.underlying t=some .bool):sR P t qX:=fun d xs h=>by
 cases d with
 | zero=>exact h.elim
 | succ d=>obtain ⟨b,rfl⟩:=NG hu h;exact ⟨_,rfl,b,rfl⟩
theorem aCs {t:TypeId} (hu:P.underlying t=some .string):sR P t qD:=fun d xs h=>by
 cases d with
 | zero=>exact h.elim
 | succ d=>obtain ⟨l,rfl,h1,h2⟩:=TJ hu h;exact ⟨_,rfl,l,rfl,h1,h2⟩
theorem WN {t e:TypeId} {T:AV->Prop} (hu:P.underlying t=some (.slice e)) (hk:tyK P e=some none) (he:sR P e T):sR P t (TSl T):=fun d xs h=>by
 cases d with
 | zero=>exact h.elim
 | succ d=>
   obtain ⟨a,ys,rfl,hs,hy⟩:=qZ (f:=id) (p:=T) hu hk (fun x h1 _ _=>by obtain ⟨a,rfl,ha⟩:=he _ _ h1;exact ⟨a,rfl,ha⟩) h
   exact ⟨a,rfl,ys,by rw [List.map_id]at hs;exact hs,hy⟩
theorem oW {t e:TypeId} {k:Nat} {T:AV->Prop} (hu:P.underlying t=some (.slice e)) (hk:tyK P e=some (some k)) (he:PT P k e T):sR P t (TSl T):=fun d xs h=>by
 cases d with
 | zero=>exact h.elim
 | succ d=>
   obtain ⟨a,ys,rfl,hs,hy⟩:=qZ (f:=id) (p:=T) hu hk (fun x h1 h2 _=>⟨.agg x,rfl,he _ _ h1 h2⟩) h
   exact ⟨a,rfl,ys,by rw [List.map_id]at hs;exact hs,hy⟩
theorem aHr {t a b:TypeId} {A B:AV->Prop} (hf:xQ P t=some [(a,some none,0),(b,some none,1)]) (ha:sR P a A) (hb:sR P b B):PT P 2 t (T2 A B):=fun d xs h hl=>by
 cases d with
 | zero=>exact h.elim
 | succ d=>
   have hs:=gE hf h
   match xs,hl with
   | [x,y],_=>
     obtain ⟨k1,e1,h1⟩:=hs _ (List.mem_cons_self ..)
     obtain ⟨k2,e2,h2⟩:=hs _ (List.mem_cons_of_mem _ (List.mem_cons_self ..))
     cases e1;cases e2
     obtain ⟨_,q1,w1⟩:=ha _ _ h1
     obtain ⟨_,q2,w2⟩:=hb _ _ h2
     cases q1;cases q2
     exact ⟨_,_,rfl,w1,w2⟩
theorem aMt {t a b c:TypeId} {A B C:AV->Prop} (hf:xQ P t=some [(a,some none,0),(b,some none,1),(c,some none,2)]) (ha:sR P a A) (hb:sR P b B) (hc:sR P c C):PT P 3 t (T3 A B C):=fun d xs h hl=>by
 cases d with
 | zero=>exact h.elim
 | succ d=>
   have hs:=gE hf h
   match xs,hl with
   | [x,y,z],_=>
     obtain ⟨k1,e1,h1⟩:=hs _ (List.mem_cons_self ..)
     obtain ⟨k2,e2,h2⟩:=hs _ (List.mem_cons_of_mem _ (List.mem_cons_self ..))
     obtain ⟨k3,e3,h3⟩:=hs _ (List.mem_cons_of_mem _ (List.mem_cons_of_mem _ (List.mem_cons_self ..)))
     cases e1;cases e2;cases e3
     obtain ⟨_,q1,w1⟩:=ha _ _ h1
     obtain ⟨_,q2,w2⟩:=hb _ _ h2
     obtain ⟨_,q3,w3⟩:=hc _ _ h3
     cases q1;cases q2;cases q3
     exact ⟨_,_,_,rfl,w1,w2,w3⟩
theorem aHs {t a b c e:TypeId} {A B C E:AV->Prop} (hf:xQ P t=some [(a,some none,0),(b,some none,1),(c,some none,2),(e,some none,3)]) (ha:sR P a A) (hb:sR P b B) (hc:sR P c C) (he:sR P e E):PT P 4 t (T4 A B C E):=fun d xs h hl=>by
 cases d with
 | zero=>exact h.elim
 | succ d=>
   have hs:=gE hf h
   match xs,hl with
   | [x,y,z,u],_=>
     obtain ⟨k1,e1,h1⟩:=hs _ (List.mem_cons_self ..)
     obtain ⟨k2,e2,h2⟩:=hs _ (List.mem_cons_of_mem _ (List.mem_cons_self ..))
     obtain ⟨k3,e3,h3⟩:=hs _ (List.mem_cons_of_mem _ (List.mem_cons_of_mem _ (List.mem_cons_self ..)))
     obtain ⟨k4,e4,h4⟩:=hs _ (List.mem_cons_of_mem _ (List.mem_cons_of_mem _ (List.mem_cons_of_mem _ (List.mem_cons_self ..))))
     cases e1;cases e2;cases e3;cases e4
     obtain ⟨_,q1,w1⟩:=ha _ _ h1
     obtain ⟨_,q2,w2⟩:=hb _ _ h2
     obtain ⟨_,q3,w3⟩:=hc _ _ h3
     obtain ⟨_,q4,w4⟩:=he _ _ h4
     cases q1;cases q2;cases q3;cases q4
     exact ⟨_,_,_,_,rfl,w1,w2,w3,w4⟩
theorem aMu {t a b c e f:TypeId} {A B C E F:AV->Prop} (hf:xQ P t=some [(a,some none,0),(b,some none,1),(c,some none,2),(e,some none,3),(f,some none,4)]) (ha:sR P a A) (hb:sR P b B) (hc:sR P c C) (he:sR P e E) (hff:sR P f F):PT P 5 t (T5 A B C E F):=fun d xs h hl=>by
 cases d with
 | zero=>exact h.elim
 | succ d=>
   have hs:=gE hf h
   match xs,hl with
   | [x,y,z,u,v],_=>
     obtain ⟨k1,e1,h1⟩:=hs _ (List.mem_cons_self ..)
     obtain ⟨k2,e2,h2⟩:=hs _ (List.mem_cons_of_mem _ (List.mem_cons_self ..))
     obtain ⟨k3,e3,h3⟩:=hs _ (List.mem_cons_of_mem _ (List.mem_cons_of_mem _ (List.mem_cons_self ..)))
     obtain ⟨k4,e4,h4⟩:=hs _ (List.mem_cons_of_mem _ (List.mem_cons_of_mem _ (List.mem_cons_of_mem _ (List.mem_cons_self ..))))
     obtain ⟨k5,e5,h5⟩:=hs _ (List.mem_cons_of_mem _ (List.mem_cons_of_mem _ (List.mem_cons_of_mem _ (List.mem_cons_of_mem _ (List.mem_cons_self ..)))))
     cases e1;cases e2;cases e3;cases e4;cases e5
     obtain ⟨_,q1,w1⟩:=ha _ _ h1
     obtain ⟨_,q2,w2⟩:=hb _ _ h2
     obtain ⟨_,q3,w3⟩:=hc _ _ h3
     obtain ⟨_,q4,w4⟩:=he _ _ h4
     obtain ⟨_,q5,w5⟩:=hff _ _ h5
     cases q1;cases q2;cases q3;cases q4;cases q5
     exact ⟨_,_,_,_,_,rfl,w1,w2,w3,w4,w5⟩
end
end Go.Abs
namespace Go.Proofs.YtkocnhkbgcjpbaaGreat
open Go.Abs Go Go.Abs.TryzF
noncomputable section
set_option maxRecDepth 10000
theorem qI:sR Tryz.prog 3 cY:=uH (by kernel_rfl)
theorem aHt:sR Tryz.prog 4 qX:=WM (by kernel_rfl)
theorem aGi:sR Tryz.prog 9 qD:=aCs (by kernel_rfl)
theorem EA:sR Tryz.prog 23 fL:=WN (by kernel_rfl) (by kernel_rfl) qI
theorem PU:sR Tryz.prog 31 tJ:=WN (by kernel_rfl) (by kernel_rfl) aHt
theorem aKl:PT Tryz.prog 2 66 wJ:=aHr (a:=64) (b:=3) (by kernel_rfl) (uH (by kernel_rfl)) qI
theorem LK:sR Tryz.prog 82 gQ:=oW (by kernel_rfl) (by kernel_rfl) aKl
theorem aMv:PT Tryz.prog 3 93 QP:=aMt (a:=3) (b:=82) (c:=82) (by kernel_rfl) qI LK LK
theorem aKm:sR Tryz.prog 83 uX:=oW (by kernel_rfl) (by kernel_rfl) aMv
theorem aMw:PT Tryz.prog 4 85 pX:=aHs (a:=81) (b:=3) (c:=82) (e:=83) (by kernel_rfl) (uH (by kernel_rfl)) qI LK aKm
theorem aKn:sR Tryz.prog 27 (TSl pX):=oW (by kernel_rfl) (by kernel_rfl) aMw
theorem aKo:PT Tryz.prog 2 134 qC:=aHr (a:=3) (b:=3) (by kernel_rfl) qI qI
theorem aHu:sR Tryz.prog 28 (TSl qC):=oW (by kernel_rfl) (by kernel_rfl) aKo
theorem aKp:PT Tryz.prog 5 30 WE:=aMu (a:=27) (b:=23) (c:=28) (e:=23) (f:=3) (by kernel_rfl) aKn EA aHu EA qI
theorem aKq:PT Tryz.prog 2 53 wK:=aHr (a:=9) (b:=3) (by kernel_rfl) aGi qI
theorem aHv:sR Tryz.prog 24 pY:=oW (by kernel_rfl) (by kernel_rfl) aKq
theorem WO:∀ d xs,eU Tryz.prog d 61 xs->xs.length=4->TPatN d (.agg xs)
 | 0,_,h,_=>h.elim
 | d+1,xs,h,hl=>by
   have hf:xQ Tryz.prog 61=some [(59,some none,0),(3,some none,1),(9,some none,2),(55,some none,3)]:=by kernel_rfl
   have hs:=gE hf h
   match xs,hl with
   | [x,y,z,u],_=>
     obtain ⟨k1,e1,h1⟩:=hs _ (List.mem_cons_self ..)
     obtain ⟨k2,e2,h2⟩:=hs _ (List.mem_cons_of_mem _ (List.mem_cons_self ..))
     obtain ⟨k3,e3,h3⟩:=hs _ (List.mem_cons_of_mem _ (List.mem_cons_of_mem _ (List.mem_cons_self ..)))
     obtain ⟨k4,e4,h4⟩:=hs _ (List.mem_cons_of_mem _ (List.mem_cons_of_mem _ (List.mem_cons_of_mem _ (List.mem_cons_self ..))))
     cases e1;cases e2;cases e3;cases e4
     obtain ⟨_,q1,w1⟩:=(uH (P:=Tryz.prog) (t:=59) (by kernel_rfl)) _ _ h1
     obtain ⟨_,q2,w2⟩:=qI _ _ h2
     obtain ⟨_,q3,w3⟩:=aGi _ _ h3
     have h4':eU Tryz.prog d 55 [u]:=h4
     cases d with
     | zero=>exact h4'.elim
     | succ d=>
       obtain ⟨a,ys,e,hsl,hy⟩:=qZ (f:=id) (p:=TPatN (d+1)) (t:=55) (e:=61) (k:=some 4) (by kernel_rfl) (by kernel_rfl) (fun x h1 h2 _=>⟨.agg x,rfl,TPatN.succ d _ (WO d x h1 h2)⟩) h4'
       cases q1;cases q2;cases q3;cases e
       rw [List.map_id]at hsl
       exact ⟨_,_,_,_,rfl,w1,w2,w3,ys,hsl,hy⟩
theorem aKr:PT Tryz.prog 4 61 tR:=fun d xs h hl=>⟨d,WO d xs h hl⟩
theorem aHw:sR Tryz.prog 55 (TSl tR):=oW (by kernel_rfl) (by kernel_rfl) aKr
theorem aHx:PT Tryz.prog 4 57 eB:=aHs (a:=54) (b:=3) (c:=23) (e:=55) (by kernel_rfl) (uH (by kernel_rfl)) qI EA aHw
theorem aCt:sR Tryz.prog 22 (TSl eB):=oW (by kernel_rfl) (by kernel_rfl) aHx
theorem aHy:PT Tryz.prog 4 26 fR:=aHs (a:=22) (b:=23) (c:=3) (e:=24) (by kernel_rfl) aCt EA qI aHv
theorem aCu (D:Nat) (xs:List AV) (h:eU Tryz.prog D 33 xs) (hl:xs.length=12):∃ os ts us is no os' ts' us' is' no' d g,xs=[os,ts,us,is,no,os',ts',us',is',no',d,g]/\SG os ts us is no os' ts' us' is' no' d g:=by
 cases D with
 | zero=>exact h.elim
 | succ D=>
   have hf:xQ Tryz.prog 33=some [(30,some (some 5),0),(30,some (some 5),5),(31,some none,10),(31,some none,11)]:=by kernel_rfl
   have hs:=gE hf h
   match xs,hl with
   | [x0,x1,x2,x3,x4,x5,x6,x7,x8,x9,x10,x11],_=>
     obtain ⟨k1,e1,h1⟩:=hs _ (List.mem_cons_self ..)
     obtain ⟨k2,e2,h2⟩:=hs _ (List.mem_cons_of_mem _ (List.mem_cons_self ..))
     obtain ⟨k3,e3,h3⟩:=hs _ (List.mem_cons_of_mem _ (List.mem_cons_of_mem _ (List.mem_cons_self ..)))
     obtain ⟨k4,e4,h4⟩:=hs _ (List.mem_cons_of_mem _ (List.mem_cons_of_mem _ (List.mem_cons_of_mem _ (List.mem_cons_self ..))))
     cases e1;cases e2;cases e3;cases e4
     obtain ⟨_,_,_,_,_,q1,a1,a2,a3,a4,a5⟩:=aKp D [x0,x1,x2,x3,x4] h1 rfl
     obtain ⟨_,_,_,_,_,q2,b1,b2,b3,b4,b5⟩:=aKp D [x5,x6,x7,x8,x9] h2 rfl
     obtain ⟨_,q3,w3⟩:=PU _ _ h3
     obtain ⟨_,q4,w4⟩:=PU _ _ h4
     cases q1;cases q2;cases q3;cases q4
     exact ⟨_,_,_,_,_,_,_,_,_,_,_,_,rfl,⟨a1,a2,a3,a4,a5⟩,⟨b1,b2,b3,b4,b5⟩,w3,w4⟩
end
end Go.Proofs.YtkocnhkbgcjpbaaGreat
/-
 The law PointForms,as a function.
-/
namespace Go.Proofs.YtkocnhkbgcjpbaaGreat
open Go.Abs Go Go.Abs.TryzF
noncomputable section
set_option maxRecDepth 10000
theorem HP {o:AV} (h:oY o=true):yD o:=by
 simp only [oY,iP,Bool.and_eq_true,decide_eq_true_eq,List.all_eq_true]at h
 refine ⟨by omega,by omega,fun f hf=>?_⟩
 have:=h.2.2 f hf
 simp only [uO,iP,Bool.and_eq_true,decide_eq_true_eq]at this
 exact ⟨by omega,by omega⟩
section
variable {p os ts us is no os' ts' us' is' no' d g:AV}
theorem WP (hp:fR p) (h:SG os ts us is no os' ts' us' is' no' d g) (h1:eX (p.fld 0).els (p.fld 1).els (p.fld 3).els=true) (h2:lY os ts us is no os' ts' us' is' no' d g=true):PS p os ts us is no os' ts' us' is' no' d g:=by
 simp only [eX,Bool.and_eq_true,decide_eq_true_eq]at h1
 simp only [lY,iQ,Bool.and_eq_true,decide_eq_true_eq,List.all_eq_true]at h2
 obtain ⟨⟨a1,a2,a3,a4,a5⟩,⟨b1,b2,b3,b4,b5⟩,c1,c2⟩:=h2
 exact ⟨hp,(by show _<=1000;omega),⟨h,by omega,by omega,by omega,by omega,by omega,by omega,by omega,by omega,by omega,by omega⟩,fun o ho=>HP (a5 o ho),fun o ho=>HP (b5 o ho)⟩
theorem LM (hp:fR p):Abs.Returns Tryz.prog 6 [p] (.bool (eX (p.fld 0).els (p.fld 1).els (p.fld 3).els)):=by
 obtain ⟨ns,fs,mm,cs,rfl,a1,a2,a3,a4⟩:=hp
 exact ET ⟨a1,a2,a3,a4⟩
abbrev EB:List AV->Option AV:=qY fR fun p=>.bool (eX (p.fld 0).els (p.fld 1).els (p.fld 3).els)
theorem smallPV_ok:Abs.Ok Tryz.prog 6 EB:=wA fun a h=>LM h
def aHz (a:AV):Prop:=∃ os ts us is no os' ts' us' is' no' d g,a=uF os ts us is no os' ts' us' is' no' d g/\SG os ts us is no os' ts' us' is' no' d g
abbrev EC:List AV->Option AV:=qY aHz fun a=>.bool (lY (a.fld 0) (a.fld 1) (a.fld 2) (a.fld 3) (a.fld 4) (a.fld 5) (a.fld 6) (a.fld 7) (a.fld 8) (a.fld 9) (a.fld 10) (a.fld 11))
theorem smallSV_ok:Abs.Ok Tryz.prog 7 EC:=wA fun a ⟨os,ts,us,is,no,os',ts',us',is',no',d,g,e,h⟩=>by
 subst e;exact CB h
abbrev ED:List AV->Option AV:=fun l=>if l=[] then some (.bool true) else none
theorem SA (hk:Abs.Returns Tryz.prog 8 [] (.bool true)):Abs.Ok Tryz.prog 8 ED:=fun args v h=>by
 unfold ED at h
 split at h
 ·rename_i e;subst e;cases h;exact hk
 ·cases h
def PSt (p a:AV):Prop:=∃ os ts us is no os' ts' us' is' no' d g,a=uF os ts us is no os' ts' us' is' no' d g/\PS p os ts us is no os' ts' us' is' no' d g
abbrev EE:List AV->Option AV:=sV PSt fun p a=>gC (uI p (a.fld 0) (a.fld 1) (a.fld 2) (a.fld 3) (a.fld 4) (a.fld 5) (a.fld 6) (a.fld 7) (a.fld 8) (a.fld 9) (a.fld 10) (a.fld 11))
theorem pcheckV_ok:Abs.Ok Tryz.prog 13 EE:=ok2 fun p a ⟨os,ts,us,is,no,os',ts',us',is',no',d,g,e,h⟩=>by
 subst e;exact WH h
set_option maxHeartbeats 2000000 in
theorem WQ (hk:Abs.Returns Tryz.prog 8 [] (.bool true)) (hp:fR p) (h:SG os ts us is no os' ts' us' is' no' d g):Abs.Returns Tryz.prog 4 [p,uF os ts us is no os' ts' us' is' no' d g] (.bool true):=by
 have hup:=(dV p hp).1
 have hus:=h.und
 have e1:EB [p]=some (.bool (eX (p.fld 0).els (p.fld 1).els (p.fld 3).els)):=bU hp
 have e2:EC [.agg [os,ts,us,is,no,os',ts',us',is',no',d,g]]=some (.bool (lY os ts us is no os' ts' us' is' no' d g)):=bU (a:=uF os ts us is no os' ts' us' is' no' d g) ⟨os,ts,us,is,no,os',ts',us',is',no',d,g,rfl,h⟩
 have e3:ED []=some (.bool true):=rfl
 obtain ⟨c1,c2,c3,c4,c5⟩:=h.w.cells
 obtain ⟨c6,c7,c8,c9,c10⟩:=h.s.cells
 obtain ⟨c11,c12⟩:=h.cells
 refine aH (L:=[ent 6 EB,ent 7 EC,ent 8 ED,ent 13 EE,ent 14 HG]) (elist_cons smallPV_ok.ent (elist_cons smallSV_ok.ent (elist_cons (SA hk).ent (elist_cons pcheckV_ok.ent (elist_cons rcheckV_ok.ent aG))))) (fun r=>(bif Nat.beq r 3 then [2,5,8] else [],[])) (by kernel_rfl) Tryz.func4 Tryz.ntmps4 Tryz.results4 rfl rfl (aA hup.und (aA hus.und aF)) aJ ?_
 have hq:∃ ns fs mm cs,p=.agg [ns,fs,mm,cs]/\ns.isCell=true/\fs.isCell=true/\mm.isCell=true/\cs.isCell=true:=by
  obtain ⟨ns,fs,mm,cs,rfl,a1,a2,a3,a4⟩:=hp
  exact ⟨ns,fs,mm,cs,rfl,(dM _ a1).2,(aP _ a2).2,(tu_int _ a3).2,(dN _ a4).2⟩
 cases k1:eX (p.fld 0).els (p.fld 1).els (p.fld 3).els with
 | false=>
   rw [k1]at e1
   obtain ⟨ns,fs,mm,cs,rfl,q1,q2,q3,q4⟩:=hq
   unfold uF
   simp +contextual +decide (maxSteps:=1000000) only [↓ wP,wQ,tf,Nat.reduceAdd,wS,reduceCtorEq,c1,c2,c3,c4,c5,c6,c7,c8,c9,c10,c11,c12,q1,q2,q3,q4,e1,e3]
 | true=>
 rw [k1]at e1
 cases k2:lY os ts us is no os' ts' us' is' no' d g with
 | false=>
   rw [k2]at e2
   obtain ⟨ns,fs,mm,cs,rfl,q1,q2,q3,q4⟩:=hq
   unfold uF
   simp +contextual +decide (maxSteps:=1000000) only [↓ wP,wQ,tf,Nat.reduceAdd,wS,reduceCtorEq,c1,c2,c3,c4,c5,c6,c7,c8,c9,c10,c11,c12,q1,q2,q3,q4,e1,e2,e3]
 | true=>
 rw [k2]at e2
 have hps:=WP hp h k1 k2
 have e4:EE [p,.agg [os,ts,us,is,no,os',ts',us',is',no',d,g]]=some (gC (uI p os ts us is no os' ts' us' is' no' d g)):=sg2_eq (b:=uF os ts us is no os' ts' us' is' no' d g) ⟨os,ts,us,is,no,os',ts',us',is',no',d,g,rfl,hps⟩
 have e5:HG [p,.agg [os,ts,us,is,no,os',ts',us',is',no',d,g]]=some (gC (kZ p&&kY p os ts us is no os' ts' us' is' no' d g)):=sg2_eq (b:=uF os ts us is no os' ts' us' is' no' d g) ⟨⟨hp,hps.hm⟩,os,ts,us,is,no,os',ts',us',is',no',d,g,rfl,hps.hs⟩
 rw [aCr hps]at e4
 generalize (kZ p&&kY p os ts us is no os' ts' us' is' no' d g)=B at *
 obtain ⟨ns,fs,mm,cs,rfl,q1,q2,q3,q4⟩:=hq
 unfold uF
 cases B<;>
 simp +contextual +decide (maxSteps:=1000000) only [↓ wP,wQ,tf,Nat.reduceAdd,wS,reduceCtorEq,c1,c2,c3,c4,c5,c6,c7,c8,c9,c10,c11,c12,q1,q2,q3,q4,e1,e2,e3,e4,e5,gC]
end
end
end Go.Proofs.YtkocnhkbgcjpbaaGreat
