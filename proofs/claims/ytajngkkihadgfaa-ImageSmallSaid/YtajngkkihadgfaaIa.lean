/-
  Worlds, in plain words; how they lie in the machine.
-/
import Derived.Test.YtajngkkihadgfaaHw
import Derived.Test.YtajngkkihadgfaaEp
set_option linter.unusedVariables false
set_option linter.unusedSimpArgs false
namespace Go.Proofs.Ytajngkkihadgfaa
open Go.Abs Go Go.Abs.TryF
noncomputable section
set_option maxRecDepth 10000
structure Wd where
 objs:List Ob
 tasks:List Int
 outs:List eA
 ins:List Int
 used:Int
 deriving DecidableEq
def lG (n:Int) (v:eA):Bool:=!(decide (v.1=5)&&decide (n<=v.2))
def yM (n:Int) (l:List eA):Bool:=l.all (lG n)
def PP (n:Int) (f:Fr):Bool:=yM n f.env&&yM n f.vals
def jD (n:Int) (o:Ob):Bool:=o.frs.all (PP n)&&yM n o.vals
def sE (n:Int) (o:Ob):Bool:=gV o&&jD n o
def mB (v:eA):Bool:=cS v.1&&cS v.2
def mL (w:Wd):Bool:=decide (w.objs.length<=120)&&decide (w.tasks.length<=120)&&decide (w.outs.length<=100)&&decide (w.ins.length<=50)&&iU w.used 0 1073741824 &&
 w.objs.all (sE w.objs.length)&&w.tasks.all (fun t=>iU t 0 ((w.objs.length:Int)-1))&&w.outs.all mB&&w.ins.all cS
def IC:AV->Option Int
 | .int .i64 n=>some n
 | _=>none
def dU:AV->Option (List Int):=EY IC
def uW:AV->Option (List Ob):=EY fG
def nL:AV->Option Wd
 | .agg [os,ts,us,is,.int .i64 n]=>match uW os,dU ts,cE us,dU is with
   | some a,some b,some c,some d=>some ⟨a,b,c,d,n⟩
   | _,_,_,_=>none
 | _=>none
theorem LV {a:AV} {n:Int} (h:IC a=some n):a=pI n:=by
 unfold IC at h
 split at h
 ·cases h;rfl
 ·cases h
theorem lH {a:AV} {l:List Int} (h:dU a=some l):Sl a (l.map pI):=by
 unfold dU EY at h
 split at h
 ·simp at h;subst h;exact ⟨.inl ⟨rfl,rfl⟩,Nat.zero_le _⟩
 ·rename_i xs c
  split at h
  ·rename_i hl
   have:=DA (g:=pI) (fun a x=>LV) xs l h
   subst this
   exact ⟨.inr ⟨c,rfl⟩,hl⟩
  ·cases h
 ·cases h
theorem PQ {a:AV} {l:List Int} (h:Sl a (l.map pI)):dU a=some l:=by
 rcases h.1 with ⟨rfl,e⟩ | ⟨c,rfl⟩
 ·rw [List.map_eq_nil_iff.1 e];rfl
 ·show (if _ then _ else _)=_
  rw [if_pos h.2,CZ (f:=IC) (g:=pI) fun _=>rfl]
theorem uX {a:AV} {w:Wd} (h:nL a=some w):∃ os ts us is,a=.agg [os,ts,us,is,.int .i64 w.used]/\uW os=some w.objs/\dU ts=some w.tasks/\cE us=some w.outs/\dU is=some w.ins:=by
 unfold nL at h
 split at h
 ·rename_i os ts us is n
  split at h
  ·rename_i a b c d h1 h2 h3 h4
   cases h
   exact ⟨os,ts,us,is,rfl,h1,h2,h3,h4⟩
  ·cases h
 ·cases h
theorem LW (a:AV) (o:Ob) (h:fG a=some o):∃ cs,a=.agg cs/\cs.length=4/\cs.all AV.isCell=true:=by
 obtain ⟨vs,fs,rfl,h1,h2⟩:=jL h
 refine ⟨_,rfl,rfl,?_⟩
 simp only [List.all_cons,List.all_nil,cL h1,iJ h2];rfl
theorem PT {α:Type} [Inhabited α] {f:AV->Option α} {k:Nat} (hf:∀ a x,f a=some x->∃ cs,a=.agg cs/\cs.length=k/\cs.all AV.isCell=true) {a:AV} {l:List α} (h:EY f a=some l):
 ∃ (xs:List AV) (c:Nat->List AV),Sl a xs/\xs.length=l.length/\(∀ i,i<l.length->(∀ {q:IntKind} {d:Option AV},eU (some k) xs (.int q (i:Nat)) d=some (.pf (.agg (c i))))/\(c i).length=k/\(c i).all AV.isCell=true/\f (.agg (c i))=some (l.getD i default)):=by
 obtain ⟨xs,h1,h2,h3⟩:=wX h
 refine ⟨xs,fun i=>(xs.getD i .top).cells,h1,h2,fun i hi=>?_⟩
 have hx:i<xs.length:=by omega
 obtain ⟨cs,q1,q2,q3⟩:=hf _ _ (h3 i hx hi)
 have hxi:xs.getD i .top=.agg cs:=by rw [aT hx];exact q1
 refine ⟨fun {q d}=>?_,by simp only [hxi];exact q2,by simp only [hxi];exact q3,?_⟩
 ·simp only [hxi]
  refine iL (by omega) (by omega) ?_ q2
  rw [Int.toNat_natCast,List.getElem?_eq_getElem hx,q1];rfl
 ·simp only [hxi,AV.cells]
  rw [aT hi,<-h3 i hx hi,q1]
theorem yN {a:AV} {l:List Ob} (h:uW a=some l):∃ (xs:List AV) (c:Nat->List AV),Sl a xs/\xs.length=l.length/\(∀ i,i<l.length->(∀ {q:IntKind} {d:Option AV},eU (some 4) xs (.int q (i:Nat)) d=some (.pf (.agg (c i))))/\(c i).length=4/\(c i).all AV.isCell=true/\fG (.agg (c i))=some (l.getD i default)):=PT LW h
theorem VV {a:AV} {l:List Ob} (h:uW a=some l):UnderE 0 a:=by
 obtain ⟨xs,h1,h2,h3⟩:=wX h
 refine pJ h1 fun x hx=>?_
 obtain ⟨i,hi,rfl⟩:=List.mem_iff_getElem.1 hx
 exact wY (h3 i hi (by omega))
theorem qV {a:AV} {l:List Int} (h:dU a=some l):UnderE 0 a:=pJ (lH h) (aCf l)
theorem LX {a:AV} {w:Wd} (h:nL a=some w):UnderE 0 a:=by
 obtain ⟨os,ts,us,is,rfl,h1,h2,h3,h4⟩:=uX h
 refine fD fun x hx=>?_
 simp at hx
 rcases hx with rfl | rfl | rfl | rfl | rfl
 ·exact VV h1
 ·exact qV h2
 ·exact qY h3
 ·exact qV h4
 ·exact ⟨1,rfl⟩
theorem wG {a:AV} {w:Wd} (h:nL a=some w):∃ os ts us is,a=.agg [os,ts,us,is,.int .i64 w.used]/\uW os=some w.objs/\dU ts=some w.tasks/\cE us=some w.outs/\dU is=some w.ins/\os.isCell=true/\ts.isCell=true/\us.isCell=true/\is.isCell=true:=by
 obtain ⟨os,ts,us,is,rfl,h1,h2,h3,h4⟩:=uX h
 exact ⟨os,ts,us,is,rfl,h1,h2,h3,h4,iJ h1,iJ h2,iJ h3,iJ h4⟩
end
end Go.Proofs.Ytajngkkihadgfaa
/-
 The program of images: every,for objects,outputs and numbers.
-/
namespace Go.Proofs.Ytajngkkihadgfaa
open Go.Abs Go Go.Abs.TryF
noncomputable section
set_option maxRecDepth 10000
theorem PU {O:bP} (ho:∀ a σ,O 111 a σ=none) (g:FuncId) (cap:List AV) (a:AV) (xs:List AV) (ha:Sl a xs) (m:Nat) (hlen:xs.length=m) (c:Nat->List AV) (hix:∀ i,i<m->∀ {q:IntKind} {d:Option AV},eU (some 4) xs (.int q (i:Nat)) d=some (.pf (.agg (c i)))) (hcl:∀ i,i<m->(c i).length=4) (p:Nat->Bool) (s:Sto)
 (h:∀ i,i<m->∀ s',Sim s s'->RetS Try.prog O (.func (.func g) [] cap) [.agg (c i)] s' (.bool (p i))):RetS Try.prog O (.func (.func 111) [] []) [a,.func (.func g) [] cap] s (.int .i64 (match (List.range m).findIdx? p with | some i=>((i:Nat):Int) | none=>-1)):=by
 have hll:=ha.2
 refine RetS.run (first:=[]) (args:=[a,.func (.func g) [] cap]) (cap:=[]) aR (ho _ _) (by kernel_rfl) Try.func111 Try.ntmps111 Try.results111 rfl rfl ?_
 obtain ⟨n0,low0,o0⟩:=s
 show Wk _ _ _ _ ⟨19,none,111,Tr.leaf.lay 0 [a,.func (.func g) [] cap],[],⟨n0,n0,o0⟩,.no⟩ _
 simp +contextual +decide (maxSteps:=1000000) only [↓ wP,wQ,tf,Nat.reduceAdd,ne_eq,ha.len,hlen]
 refine cB (fun i e=>∃ t n low o,e=⟨19,none,111,t,[],⟨n,low,o⟩,.no⟩/\t.val 0=a/\t.val 1=.func (.func g) [] cap/\t.val 7=.int .i64 (m:Nat)/\t.val 8=.int .i64 (i:Nat)/\i<=m/\(∀ j,j<i->p j=false)/\n0<=n/\∀ id,id<n0->o.get id=o0.get id) (fun i=>m-i) 0
  ⟨_,n0,n0,o0,rfl,by simp +decide only [↓ aB,aD,aC],by simp +decide only [↓ aB,aD,aC],by simp +decide only [↓ aB,aD,aC],by simp +decide only [↓ aB,aD,aC];rfl,Nat.zero_le _,fun j hj=>by omega,Nat.le_refl _,fun _ _=>rfl⟩ ?_
 rintro i _ ⟨t,n,low,o,rfl,t0,t1,t7,t8,hi,hpre,hn,hoth⟩
 by_cases hlt:i<m
 ·have d1:((i:Int)<(m:Nat))=True:=eq_true (by omega)
  have d5:=bH (i:=i) (by omega)
  have x1:=fun {q d}=>hix i hlt (q:=q) (d:=d)
  have x2:=hcl i hlt
  have x3:=h i hlt
  generalize c i=cs at *
  simp +contextual +decide (maxSteps:=1000000) only [↓ wP,wQ,tf,Nat.reduceAdd,ne_eq,ha.idx,t0,t1,t7,t8,d1,x1,cM,x2]
  refine cG.1 ((x3 ⟨n,low,o⟩ (bB (low:=low0) hn hoth)).wcall fun so hso=>?_)
  rw [aH]
  obtain ⟨n',low',o',e1,h1,h2⟩:=cH hso
  rw [e1]
  cases hp:p i with
  | true=>
    have hf:(List.range m).findIdx? p=some i:=by
     rw [List.findIdx?_eq_some_iff_getElem]
     refine ⟨by simpa using hlt,by simpa using hp,fun j hj=>?_⟩
     have:=hpre j hj
     simpa using this
    simp +contextual +decide (maxSteps:=1000000) only [↓ wP,wQ,tf,Nat.reduceAdd,ne_eq,t0,t1,t7,t8,aX,aI,hf]
    exact bB (by omega) (fun id hid=>by rw [h2 id (by omega)];exact hoth id hid)
  | false=>
    simp +contextual +decide (maxSteps:=1000000) only [↓ wP,wQ,tf,Nat.reduceAdd,ne_eq,t0,t1,t7,t8,d5]
    exact ⟨i+1,by show _-_<_-_;omega,_,n',low',o',rfl,by simp +decide only [↓ aB,aD,aC,t0],by simp +decide only [↓ aB,aD,aC,t1],by simp +decide only [↓ aB,aD,aC,t7],by simp +decide only [↓ aB,aD,aC],hlt,fun j hj=>by
     rcases Nat.lt_succ_iff_lt_or_eq.1 hj with hj | rfl
     ·exact hpre j hj
     ·exact hp,by omega,fun id hid=>by rw [h2 id (by omega)];exact hoth id hid⟩
 ·have:i=m:=by omega
  subst this
  have d1:(((i:Nat):Int)<(i:Nat))=False:=eq_false (by omega)
  have hf:(List.range i).findIdx? p=none:=by
   rw [List.findIdx?_eq_none_iff]
   intro x hx
   exact hpre x (List.mem_range.1 hx)
  simp +contextual +decide (maxSteps:=1000000) only [↓ wP,wQ,tf,Nat.reduceAdd,ne_eq,t0,t1,t7,t8,d1,aX,aI,hf]
  exact bB hn hoth
theorem EQ {O:bP} (ho:∀ a σ,O 111 a σ=none) (ho':∀ a σ,O 101 a σ=none) (g:FuncId) (cap:List AV) (a:AV) (xs:List AV) (ha:Sl a xs) (m:Nat) (hlen:xs.length=m) (c:Nat->List AV) (hix:∀ i,i<m->∀ {q:IntKind} {d:Option AV},eU (some 4) xs (.int q (i:Nat)) d=some (.pf (.agg (c i)))) (hcl:∀ i,i<m->(c i).length=4) (p:Nat->Bool) (s:Sto)
 (h:∀ i,i<m->∀ s',Sim s s'->RetS Try.prog O (.func (.func g) [] cap) [.agg (c i)] s' (.bool (p i))):RetS Try.prog O (.func (.func 101) [] []) [a,.func (.func g) [] cap] s (.bool ((List.range m).any p)):=by
 have hx:=fun s' hs=>PU ho g cap a xs ha m hlen c hix hcl p s' fun x hx s'' hs'=>h x hx s'' (Sim.trans (b:=s') hs hs')
 refine RetS.run (first:=[]) (args:=[a,.func (.func g) [] cap]) (cap:=[]) aR (ho' _ _) (by kernel_rfl) Try.func101 Try.ntmps101 Try.results101 rfl rfl ?_
 obtain ⟨n0,low0,o0⟩:=s
 show Wk _ _ _ _ ⟨9,none,101,Tr.leaf.lay 0 [a,.func (.func g) [] cap],[],⟨n0,n0,o0⟩,.no⟩ _
 simp +contextual +decide (maxSteps:=1000000) only [↓ wP,wQ,tf,Nat.reduceAdd,ne_eq,ho,aN]
 refine bL (ho _ _) ((hx ⟨n0,n0,o0⟩ (bB (Nat.le_refl _) fun _ _=>rfl)).wcall fun so hso=>?_)
 rw [aH]
 obtain ⟨n',low',o',e1,h1,h2⟩:=cH hso
 rw [e1]
 cases hf:(List.range m).findIdx? p with
 | none=>
   have hany:(List.range m).any p=false:=by
    rw [List.any_eq_false];intro x hx;have:=List.findIdx?_eq_none_iff.1 hf x hx;simp [this]
   simp +contextual +decide (maxSteps:=1000000) only [↓ wP,wQ,tf,Nat.reduceAdd,ne_eq,aX,aI,hany,show ((0:Int)<=-1)=False from eq_false (by omega)]
   exact bB h1 h2
 | some i=>
   have hany:(List.range m).any p=true:=by
    obtain ⟨h3,h4,_⟩:=List.findIdx?_eq_some_iff_getElem.1 hf
    rw [List.any_eq_true];exact ⟨_,List.getElem_mem h3,h4⟩
   simp +contextual +decide (maxSteps:=1000000) only [↓ wP,wQ,tf,Nat.reduceAdd,ne_eq,aX,aI,hany,show ((0:Int)<=(i:Nat))=True from eq_true (by omega)]
   exact bB h1 h2
theorem LY {O:bP} (ho1:∀ a σ,O 102 a σ=none) (g:FuncId) (cap:List AV) (cs:List AV) (hcs:cs.length=4) (hcc:cs.all AV.isCell=true) (b:Bool) (c:Nat) (s:Sto) (hc:s.get c=some (bE 0 [.func (.func g) [] cap]))
 (h:∀ s',Sim s s'->RetS Try.prog O (.func (.func g) [] cap) [.agg cs] s' (.bool b)):RetS Try.prog O (.func (.func 102) [] [.ptr c 0 0]) [.agg cs] s (.bool !b):=by
 refine RetS.run (first:=[]) (args:=[.agg cs]) (cap:=[.ptr c 0 0]) aR (ho1 _ _) (by kernel_rfl) Try.func102 Try.ntmps102 Try.results102 rfl rfl ?_
 obtain ⟨n0,low0,o0⟩:=s
 have hcn:c<n0:=Sto.get_lt hc
 rw [Sto.get_mk hcn]at hc
 have f0:=bK hcn
 have hz:0+4<=cs.length:=by omega
 show Wk _ _ _ _ ⟨8,none,102,Tr.leaf.lay 0 [.agg cs,.ptr c 0 0],[],⟨n0,n0,o0⟩,.no⟩ _
 simp +contextual +decide (maxSteps:=1000000) only [↓ wP,wQ,tf,Nat.reduceAdd,ne_eq,hc,hcc,hcs,hz,f0,bF,show aG cs 0 4=cs from by unfold aG;rw [List.drop_zero,List.take_of_length_le (by omega)]]
 refine cG.1 ((h _ (bB (by omega) fun id hid=>by rw [Tr.get_set_ne _ _ (by omega)])).wcall fun so hso=>?_)
 rw [aH]
 obtain ⟨n',low',o',e1,h1,h2⟩:=cH hso
 rw [e1]
 simp +contextual +decide (maxSteps:=1000000) only [↓ wP,wQ,tf,Nat.reduceAdd,ne_eq,aX,aI]
 exact bB (by omega) (fun id hid=>by rw [h2 id (by omega),Tr.get_set_ne _ _ (by omega)])
theorem PV {O:bP} (ho:∀ a σ,O 111 a σ=none) (ho':∀ a σ,O 101 a σ=none) (ho1:∀ a σ,O 102 a σ=none) (ho2:∀ a σ,O 70 a σ=none)
 (g:FuncId) (cap:List AV) (a:AV) (xs:List AV) (ha:Sl a xs) (m:Nat) (hlen:xs.length=m) (c:Nat->List AV) (hix:∀ i,i<m->∀ {q:IntKind} {d:Option AV},eU (some 4) xs (.int q (i:Nat)) d=some (.pf (.agg (c i)))) (hcl:∀ i,i<m->(c i).length=4) (hcc:∀ i,i<m->(c i).all AV.isCell=true) (p:Nat->Bool) (most:Nat) (s:Sto)
 (h:∀ i,i<m->∀ s',Sim s s'->RetS Try.prog O (.func (.func g) [] cap) [.agg (c i)] s' (.bool (p i))):RetS Try.prog O (.func (.func 70) [] []) [a,.int .i64 (most:Nat),.func (.func g) [] cap] s (.bool (decide (m<=most)&&(List.range m).all p)):=by
 refine RetS.run (first:=[]) (args:=[a,.int .i64 (most:Nat),.func (.func g) [] cap]) (cap:=[]) aR (ho2 _ _) (by kernel_rfl) Try.func70 Try.ntmps70 Try.results70 rfl rfl ?_
 obtain ⟨n0,low0,o0⟩:=s
 show Wk _ _ _ _ ⟨17,none,70,Tr.leaf.lay 0 [a,.int .i64 (most:Nat),.func (.func g) [] cap],[],⟨n0,n0,o0⟩,.no⟩ _
 have d1:(((m:Nat):Int)<=(most:Nat))=(m<=most):=propext (by omega)
 by_cases hl:m<=most
 ·simp +contextual +decide (maxSteps:=1000000) only [↓ wP,wQ,tf,Nat.reduceAdd,ne_eq,ha.len,hlen,d1,hl,ho',aN]
  refine bL (ho' _ _) ((EQ ho ho' 102 [.ptr n0 0 0] a xs ha m hlen c hix hcl (fun i=>!p i) ⟨n0+1,n0,o0.set n0 (bE 0 [.func (.func g) [] cap])⟩ fun i hi s' hs=>?_).wcall fun so hso=>?_)
  ·refine LY ho1 g cap (c i) (hcl i hi) (hcc i hi) (p i) n0 s' (hs.get ?_) fun s'' hs'=>h i hi s'' ?_
   ·rw [Sto.get_mk (by omega),Tr.get_set_same]
   ·exact (bB (by omega) fun id hid=>by rw [Tr.get_set_ne _ _ (by omega)]:Sim ⟨n0,low0,o0⟩ ⟨n0+1,n0,o0.set n0 (bE 0 [.func (.func g) [] cap])⟩).trans (hs.trans hs')
  ·rw [aH]
   obtain ⟨n',low',o',e1,h1,h2⟩:=cH hso
   rw [e1]
   have hany:((List.range m).any fun x=>!p x) = !(List.range m).all p:=by rw [<-List.not_all_eq_any_not]
   rw [hany]
   simp +contextual +decide (maxSteps:=1000000) only [↓ wP,wQ,tf,Nat.reduceAdd,ne_eq,aX,aI,Bool.not_not]
   exact bB (by omega) (fun id hid=>by rw [h2 id (by omega),Tr.get_set_ne _ _ (by omega)])
 ·simp +contextual +decide (maxSteps:=1000000) only [↓ wP,wQ,tf,Nat.reduceAdd,ne_eq,ha.len,hlen,d1,hl,aX,aI]
  exact ⟨by simp,bB (by omega) (fun id hid=>by rw [Tr.get_set_ne _ _ (by omega)])⟩
theorem PW {O:bP} (ho:∀ a σ,O 113 a σ=none) (g:FuncId) (cap:List AV) (a:AV) (xs:List AV) (ha:Sl a xs) (m:Nat) (hlen:xs.length=m) (c:Nat->List AV) (hix:∀ i,i<m->∀ {q:IntKind} {d:Option AV},eU (some 2) xs (.int q (i:Nat)) d=some (.pf (.agg (c i)))) (hcl:∀ i,i<m->(c i).length=2) (p:Nat->Bool) (s:Sto)
 (h:∀ i,i<m->∀ s',Sim s s'->RetS Try.prog O (.func (.func g) [] cap) [.agg (c i)] s' (.bool (p i))):RetS Try.prog O (.func (.func 113) [] []) [a,.func (.func g) [] cap] s (.int .i64 (match (List.range m).findIdx? p with | some i=>((i:Nat):Int) | none=>-1)):=by
 have hll:=ha.2
 refine RetS.run (first:=[]) (args:=[a,.func (.func g) [] cap]) (cap:=[]) aR (ho _ _) (by kernel_rfl) Try.func113 Try.ntmps113 Try.results113 rfl rfl ?_
 obtain ⟨n0,low0,o0⟩:=s
 show Wk _ _ _ _ ⟨19,none,113,Tr.leaf.lay 0 [a,.func (.func g) [] cap],[],⟨n0,n0,o0⟩,.no⟩ _
 simp +contextual +decide (maxSteps:=1000000) only [↓ wP,wQ,tf,Nat.reduceAdd,ne_eq,ha.len,hlen]
 refine cB (fun i e=>∃ t n low o,e=⟨19,none,113,t,[],⟨n,low,o⟩,.no⟩/\t.val 0=a/\t.val 1=.func (.func g) [] cap/\t.val 7=.int .i64 (m:Nat)/\t.val 8=.int .i64 (i:Nat)/\i<=m/\(∀ j,j<i->p j=false)/\n0<=n/\∀ id,id<n0->o.get id=o0.get id) (fun i=>m-i) 0
  ⟨_,n0,n0,o0,rfl,by simp +decide only [↓ aB,aD,aC],by simp +decide only [↓ aB,aD,aC],by simp +decide only [↓ aB,aD,aC],by simp +decide only [↓ aB,aD,aC];rfl,Nat.zero_le _,fun j hj=>by omega,Nat.le_refl _,fun _ _=>rfl⟩ ?_
 rintro i _ ⟨t,n,low,o,rfl,t0,t1,t7,t8,hi,hpre,hn,hoth⟩
 by_cases hlt:i<m
 ·have d1:((i:Int)<(m:Nat))=True:=eq_true (by omega)
  have d5:=bH (i:=i) (by omega)
  have x1:=fun {q d}=>hix i hlt (q:=q) (d:=d)
  have x2:=hcl i hlt
  have x3:=h i hlt
  generalize c i=cs at *
  simp +contextual +decide (maxSteps:=1000000) only [↓ wP,wQ,tf,Nat.reduceAdd,ne_eq,ha.idx,t0,t1,t7,t8,d1,x1,cM,x2]
  refine cG.1 ((x3 ⟨n,low,o⟩ (bB (low:=low0) hn hoth)).wcall fun so hso=>?_)
  rw [aH]
  obtain ⟨n',low',o',e1,h1,h2⟩:=cH hso
  rw [e1]
  cases hp:p i with
  | true=>
    have hf:(List.range m).findIdx? p=some i:=by
     rw [List.findIdx?_eq_some_iff_getElem]
     refine ⟨by simpa using hlt,by simpa using hp,fun j hj=>?_⟩
     have:=hpre j hj
     simpa using this
    simp +contextual +decide (maxSteps:=1000000) only [↓ wP,wQ,tf,Nat.reduceAdd,ne_eq,t0,t1,t7,t8,aX,aI,hf]
    exact bB (by omega) (fun id hid=>by rw [h2 id (by omega)];exact hoth id hid)
  | false=>
    simp +contextual +decide (maxSteps:=1000000) only [↓ wP,wQ,tf,Nat.reduceAdd,ne_eq,t0,t1,t7,t8,d5]
    exact ⟨i+1,by show _-_<_-_;omega,_,n',low',o',rfl,by simp +decide only [↓ aB,aD,aC,t0],by simp +decide only [↓ aB,aD,aC,t1],by simp +decide only [↓ aB,aD,aC,t7],by simp +decide only [↓ aB,aD,aC],hlt,fun j hj=>by
     rcases Nat.lt_succ_iff_lt_or_eq.1 hj with hj | rfl
     ·exact hpre j hj
     ·exact hp,by omega,fun id hid=>by rw [h2 id (by omega)];exact hoth id hid⟩
 ·have:i=m:=by omega
  subst this
  have d1:(((i:Nat):Int)<(i:Nat))=False:=eq_false (by omega)
  have hf:(List.range i).findIdx? p=none:=by
   rw [List.findIdx?_eq_none_iff]
   intro x hx
   exact hpre x (List.mem_range.1 hx)
  simp +contextual +decide (maxSteps:=1000000) only [↓ wP,wQ,tf,Nat.reduceAdd,ne_eq,t0,t1,t7,t8,d1,aX,aI,hf]
  exact bB hn hoth
theorem ET {O:bP} (ho:∀ a σ,O 113 a σ=none) (ho':∀ a σ,O 105 a σ=none) (g:FuncId) (cap:List AV) (a:AV) (xs:List AV) (ha:Sl a xs) (m:Nat) (hlen:xs.length=m) (c:Nat->List AV) (hix:∀ i,i<m->∀ {q:IntKind} {d:Option AV},eU (some 2) xs (.int q (i:Nat)) d=some (.pf (.agg (c i)))) (hcl:∀ i,i<m->(c i).length=2) (p:Nat->Bool) (s:Sto)
 (h:∀ i,i<m->∀ s',Sim s s'->RetS Try.prog O (.func (.func g) [] cap) [.agg (c i)] s' (.bool (p i))):RetS Try.prog O (.func (.func 105) [] []) [a,.func (.func g) [] cap] s (.bool ((List.range m).any p)):=by
 have hx:=fun s' hs=>PW ho g cap a xs ha m hlen c hix hcl p s' fun x hx s'' hs'=>h x hx s'' (Sim.trans (b:=s') hs hs')
 refine RetS.run (first:=[]) (args:=[a,.func (.func g) [] cap]) (cap:=[]) aR (ho' _ _) (by kernel_rfl) Try.func105 Try.ntmps105 Try.results105 rfl rfl ?_
 obtain ⟨n0,low0,o0⟩:=s
 show Wk _ _ _ _ ⟨9,none,105,Tr.leaf.lay 0 [a,.func (.func g) [] cap],[],⟨n0,n0,o0⟩,.no⟩ _
 simp +contextual +decide (maxSteps:=1000000) only [↓ wP,wQ,tf,Nat.reduceAdd,ne_eq,ho,aN]
 refine bL (ho _ _) ((hx ⟨n0,n0,o0⟩ (bB (Nat.le_refl _) fun _ _=>rfl)).wcall fun so hso=>?_)
 rw [aH]
 obtain ⟨n',low',o',e1,h1,h2⟩:=cH hso
 rw [e1]
 cases hf:(List.range m).findIdx? p with
 | none=>
   have hany:(List.range m).any p=false:=by
    rw [List.any_eq_false];intro x hx;have:=List.findIdx?_eq_none_iff.1 hf x hx;simp [this]
   simp +contextual +decide (maxSteps:=1000000) only [↓ wP,wQ,tf,Nat.reduceAdd,ne_eq,aX,aI,hany,show ((0:Int)<=-1)=False from eq_false (by omega)]
   exact bB h1 h2
 | some i=>
   have hany:(List.range m).any p=true:=by
    obtain ⟨h3,h4,_⟩:=List.findIdx?_eq_some_iff_getElem.1 hf
    rw [List.any_eq_true];exact ⟨_,List.getElem_mem h3,h4⟩
   simp +contextual +decide (maxSteps:=1000000) only [↓ wP,wQ,tf,Nat.reduceAdd,ne_eq,aX,aI,hany,show ((0:Int)<=(i:Nat))=True from eq_true (by omega)]
   exact bB h1 h2
theorem LZ {O:bP} (ho1:∀ a σ,O 106 a σ=none) (g:FuncId) (cap:List AV) (cs:List AV) (hcs:cs.length=2) (hcc:cs.all AV.isCell=true) (b:Bool) (c:Nat) (s:Sto) (hc:s.get c=some (bE 0 [.func (.func g) [] cap]))
 (h:∀ s',Sim s s'->RetS Try.prog O (.func (.func g) [] cap) [.agg cs] s' (.bool b)):RetS Try.prog O (.func (.func 106) [] [.ptr c 0 0]) [.agg cs] s (.bool !b):=by
 refine RetS.run (first:=[]) (args:=[.agg cs]) (cap:=[.ptr c 0 0]) aR (ho1 _ _) (by kernel_rfl) Try.func106 Try.ntmps106 Try.results106 rfl rfl ?_
 obtain ⟨n0,low0,o0⟩:=s
 have hcn:c<n0:=Sto.get_lt hc
 rw [Sto.get_mk hcn]at hc
 have f0:=bK hcn
 have hz:0+2<=cs.length:=by omega
 show Wk _ _ _ _ ⟨8,none,106,Tr.leaf.lay 0 [.agg cs,.ptr c 0 0],[],⟨n0,n0,o0⟩,.no⟩ _
 simp +contextual +decide (maxSteps:=1000000) only [↓ wP,wQ,tf,Nat.reduceAdd,ne_eq,hc,hcc,hcs,hz,f0,bF,show aG cs 0 2=cs from by unfold aG;rw [List.drop_zero,List.take_of_length_le (by omega)]]
 refine cG.1 ((h _ (bB (by omega) fun id hid=>by rw [Tr.get_set_ne _ _ (by omega)])).wcall fun so hso=>?_)
 rw [aH]
 obtain ⟨n',low',o',e1,h1,h2⟩:=cH hso
 rw [e1]
 simp +contextual +decide (maxSteps:=1000000) only [↓ wP,wQ,tf,Nat.reduceAdd,ne_eq,aX,aI]
 exact bB (by omega) (fun id hid=>by rw [h2 id (by omega),Tr.get_set_ne _ _ (by omega)])
theorem PX {O:bP} (ho:∀ a σ,O 113 a σ=none) (ho':∀ a σ,O 105 a σ=none) (ho1:∀ a σ,O 106 a σ=none) (ho2:∀ a σ,O 72 a σ=none)
 (g:FuncId) (cap:List AV) (a:AV) (xs:List AV) (ha:Sl a xs) (m:Nat) (hlen:xs.length=m) (c:Nat->List AV) (hix:∀ i,i<m->∀ {q:IntKind} {d:Option AV},eU (some 2) xs (.int q (i:Nat)) d=some (.pf (.agg (c i)))) (hcl:∀ i,i<m->(c i).length=2) (hcc:∀ i,i<m->(c i).all AV.isCell=true) (p:Nat->Bool) (most:Nat) (s:Sto)
 (h:∀ i,i<m->∀ s',Sim s s'->RetS Try.prog O (.func (.func g) [] cap) [.agg (c i)] s' (.bool (p i))):RetS Try.prog O (.func (.func 72) [] []) [a,.int .i64 (most:Nat),.func (.func g) [] cap] s (.bool (decide (m<=most)&&(List.range m).all p)):=by
 refine RetS.run (first:=[]) (args:=[a,.int .i64 (most:Nat),.func (.func g) [] cap]) (cap:=[]) aR (ho2 _ _) (by kernel_rfl) Try.func72 Try.ntmps72 Try.results72 rfl rfl ?_
 obtain ⟨n0,low0,o0⟩:=s
 show Wk _ _ _ _ ⟨17,none,72,Tr.leaf.lay 0 [a,.int .i64 (most:Nat),.func (.func g) [] cap],[],⟨n0,n0,o0⟩,.no⟩ _
 have d1:(((m:Nat):Int)<=(most:Nat))=(m<=most):=propext (by omega)
 by_cases hl:m<=most
 ·simp +contextual +decide (maxSteps:=1000000) only [↓ wP,wQ,tf,Nat.reduceAdd,ne_eq,ha.len,hlen,d1,hl,ho',aN]
  refine bL (ho' _ _) ((ET ho ho' 106 [.ptr n0 0 0] a xs ha m hlen c hix hcl (fun i=>!p i) ⟨n0+1,n0,o0.set n0 (bE 0 [.func (.func g) [] cap])⟩ fun i hi s' hs=>?_).wcall fun so hso=>?_)
  ·refine LZ ho1 g cap (c i) (hcl i hi) (hcc i hi) (p i) n0 s' (hs.get ?_) fun s'' hs'=>h i hi s'' ?_
   ·rw [Sto.get_mk (by omega),Tr.get_set_same]
   ·exact (bB (by omega) fun id hid=>by rw [Tr.get_set_ne _ _ (by omega)]:Sim ⟨n0,low0,o0⟩ ⟨n0+1,n0,o0.set n0 (bE 0 [.func (.func g) [] cap])⟩).trans (hs.trans hs')
  ·rw [aH]
   obtain ⟨n',low',o',e1,h1,h2⟩:=cH hso
   rw [e1]
   have hany:((List.range m).any fun x=>!p x) = !(List.range m).all p:=by rw [<-List.not_all_eq_any_not]
   rw [hany]
   simp +contextual +decide (maxSteps:=1000000) only [↓ wP,wQ,tf,Nat.reduceAdd,ne_eq,aX,aI,Bool.not_not]
   exact bB (by omega) (fun id hid=>by rw [h2 id (by omega),Tr.get_set_ne _ _ (by omega)])
 ·simp +contextual +decide (maxSteps:=1000000) only [↓ wP,wQ,tf,Nat.reduceAdd,ne_eq,ha.len,hlen,d1,hl,aX,aI]
  exact ⟨by simp,bB (by omega) (fun id hid=>by rw [Tr.get_set_ne _ _ (by omega)])⟩
theorem PY {O:bP} (ho:∀ a σ,O 112 a σ=none) (g:FuncId) (cap:List AV) (a:AV) (xs:List AV) (ha:Sl a xs) (m:Nat) (hlen:xs.length=m) (c:Nat->AV) (hix:∀ i,i<m->∀ {q:IntKind} {d:Option AV},eU (some 1) xs (.int q (i:Nat)) d=some (.pf (c i))) (hcl:∀ i,i<m->(c i).isCell=true) (p:Nat->Bool) (s:Sto)
 (h:∀ i,i<m->∀ s',Sim s s'->RetS Try.prog O (.func (.func g) [] cap) [c i] s' (.bool (p i))):RetS Try.prog O (.func (.func 112) [] []) [a,.func (.func g) [] cap] s (.int .i64 (match (List.range m).findIdx? p with | some i=>((i:Nat):Int) | none=>-1)):=by
 have hll:=ha.2
 refine RetS.run (first:=[]) (args:=[a,.func (.func g) [] cap]) (cap:=[]) aR (ho _ _) (by kernel_rfl) Try.func112 Try.ntmps112 Try.results112 rfl rfl ?_
 obtain ⟨n0,low0,o0⟩:=s
 show Wk _ _ _ _ ⟨19,none,112,Tr.leaf.lay 0 [a,.func (.func g) [] cap],[],⟨n0,n0,o0⟩,.no⟩ _
 simp +contextual +decide (maxSteps:=1000000) only [↓ wP,wQ,tf,Nat.reduceAdd,ne_eq,ha.len,hlen]
 refine cB (fun i e=>∃ t n low o,e=⟨19,none,112,t,[],⟨n,low,o⟩,.no⟩/\t.val 0=a/\t.val 1=.func (.func g) [] cap/\t.val 7=.int .i64 (m:Nat)/\t.val 8=.int .i64 (i:Nat)/\i<=m/\(∀ j,j<i->p j=false)/\n0<=n/\∀ id,id<n0->o.get id=o0.get id) (fun i=>m-i) 0
  ⟨_,n0,n0,o0,rfl,by simp +decide only [↓ aB,aD,aC],by simp +decide only [↓ aB,aD,aC],by simp +decide only [↓ aB,aD,aC],by simp +decide only [↓ aB,aD,aC];rfl,Nat.zero_le _,fun j hj=>by omega,Nat.le_refl _,fun _ _=>rfl⟩ ?_
 rintro i _ ⟨t,n,low,o,rfl,t0,t1,t7,t8,hi,hpre,hn,hoth⟩
 by_cases hlt:i<m
 ·have d1:((i:Int)<(m:Nat))=True:=eq_true (by omega)
  have d5:=bH (i:=i) (by omega)
  have x1:=fun {q d}=>hix i hlt (q:=q) (d:=d)
  have x2:=hcl i hlt
  have x3:=h i hlt
  generalize c i=cs at *
  simp +contextual +decide (maxSteps:=1000000) only [↓ wP,wQ,tf,Nat.reduceAdd,ne_eq,ha.idx,t0,t1,t7,t8,d1,x1,x2]
  refine cG.1 ((x3 ⟨n,low,o⟩ (bB (low:=low0) hn hoth)).wcall fun so hso=>?_)
  rw [aH]
  obtain ⟨n',low',o',e1,h1,h2⟩:=cH hso
  rw [e1]
  cases hp:p i with
  | true=>
    have hf:(List.range m).findIdx? p=some i:=by
     rw [List.findIdx?_eq_some_iff_getElem]
     refine ⟨by simpa using hlt,by simpa using hp,fun j hj=>?_⟩
     have:=hpre j hj
     simpa using this
    simp +contextual +decide (maxSteps:=1000000) only [↓ wP,wQ,tf,Nat.reduceAdd,ne_eq,t0,t1,t7,t8,aX,aI,hf]
    exact bB (by omega) (fun id hid=>by rw [h2 id (by omega)];exact hoth id hid)
  | false=>
    simp +contextual +decide (maxSteps:=1000000) only [↓ wP,wQ,tf,Nat.reduceAdd,ne_eq,t0,t1,t7,t8,d5]
    exact ⟨i+1,by show _-_<_-_;omega,_,n',low',o',rfl,by simp +decide only [↓ aB,aD,aC,t0],by simp +decide only [↓ aB,aD,aC,t1],by simp +decide only [↓ aB,aD,aC,t7],by simp +decide only [↓ aB,aD,aC],hlt,fun j hj=>by
     rcases Nat.lt_succ_iff_lt_or_eq.1 hj with hj | rfl
     ·exact hpre j hj
     ·exact hp,by omega,fun id hid=>by rw [h2 id (by omega)];exact hoth id hid⟩
 ·have:i=m:=by omega
  subst this
  have d1:(((i:Nat):Int)<(i:Nat))=False:=eq_false (by omega)
  have hf:(List.range i).findIdx? p=none:=by
   rw [List.findIdx?_eq_none_iff]
   intro x hx
   exact hpre x (List.mem_range.1 hx)
  simp +contextual +decide (maxSteps:=1000000) only [↓ wP,wQ,tf,Nat.reduceAdd,ne_eq,t0,t1,t7,t8,d1,aX,aI,hf]
  exact bB hn hoth
theorem EU {O:bP} (ho:∀ a σ,O 112 a σ=none) (ho':∀ a σ,O 103 a σ=none) (g:FuncId) (cap:List AV) (a:AV) (xs:List AV) (ha:Sl a xs) (m:Nat) (hlen:xs.length=m) (c:Nat->AV) (hix:∀ i,i<m->∀ {q:IntKind} {d:Option AV},eU (some 1) xs (.int q (i:Nat)) d=some (.pf (c i))) (hcl:∀ i,i<m->(c i).isCell=true) (p:Nat->Bool) (s:Sto)
 (h:∀ i,i<m->∀ s',Sim s s'->RetS Try.prog O (.func (.func g) [] cap) [c i] s' (.bool (p i))):RetS Try.prog O (.func (.func 103) [] []) [a,.func (.func g) [] cap] s (.bool ((List.range m).any p)):=by
 have hx:=fun s' hs=>PY ho g cap a xs ha m hlen c hix hcl p s' fun x hx s'' hs'=>h x hx s'' (Sim.trans (b:=s') hs hs')
 refine RetS.run (first:=[]) (args:=[a,.func (.func g) [] cap]) (cap:=[]) aR (ho' _ _) (by kernel_rfl) Try.func103 Try.ntmps103 Try.results103 rfl rfl ?_
 obtain ⟨n0,low0,o0⟩:=s
 show Wk _ _ _ _ ⟨9,none,103,Tr.leaf.lay 0 [a,.func (.func g) [] cap],[],⟨n0,n0,o0⟩,.no⟩ _
 simp +contextual +decide (maxSteps:=1000000) only [↓ wP,wQ,tf,Nat.reduceAdd,ne_eq,ho,aN]
 refine bL (ho _ _) ((hx ⟨n0,n0,o0⟩ (bB (Nat.le_refl _) fun _ _=>rfl)).wcall fun so hso=>?_)
 rw [aH]
 obtain ⟨n',low',o',e1,h1,h2⟩:=cH hso
 rw [e1]
 cases hf:(List.range m).findIdx? p with
 | none=>
   have hany:(List.range m).any p=false:=by
    rw [List.any_eq_false];intro x hx;have:=List.findIdx?_eq_none_iff.1 hf x hx;simp [this]
   simp +contextual +decide (maxSteps:=1000000) only [↓ wP,wQ,tf,Nat.reduceAdd,ne_eq,aX,aI,hany,show ((0:Int)<=-1)=False from eq_false (by omega)]
   exact bB h1 h2
 | some i=>
   have hany:(List.range m).any p=true:=by
    obtain ⟨h3,h4,_⟩:=List.findIdx?_eq_some_iff_getElem.1 hf
    rw [List.any_eq_true];exact ⟨_,List.getElem_mem h3,h4⟩
   simp +contextual +decide (maxSteps:=1000000) only [↓ wP,wQ,tf,Nat.reduceAdd,ne_eq,aX,aI,hany,show ((0:Int)<=(i:Nat))=True from eq_true (by omega)]
   exact bB h1 h2
theorem MA {O:bP} (ho1:∀ a σ,O 104 a σ=none) (g:FuncId) (cap:List AV) (cs:AV) (b:Bool) (c:Nat) (s:Sto) (hc:s.get c=some (bE 0 [.func (.func g) [] cap]))
 (h:∀ s',Sim s s'->RetS Try.prog O (.func (.func g) [] cap) [cs] s' (.bool b)):RetS Try.prog O (.func (.func 104) [] [.ptr c 0 0]) [cs] s (.bool !b):=by
 refine RetS.run (first:=[]) (args:=[cs]) (cap:=[.ptr c 0 0]) aR (ho1 _ _) (by kernel_rfl) Try.func104 Try.ntmps104 Try.results104 rfl rfl ?_
 obtain ⟨n0,low0,o0⟩:=s
 have hcn:c<n0:=Sto.get_lt hc
 rw [Sto.get_mk hcn]at hc
 have f0:=bK hcn
 show Wk _ _ _ _ ⟨8,none,104,Tr.leaf.lay 0 [cs,.ptr c 0 0],[],⟨n0,n0,o0⟩,.no⟩ _
 simp +contextual +decide (maxSteps:=1000000) only [↓ wP,wQ,tf,Nat.reduceAdd,ne_eq,hc,f0,bF]
 refine cG.1 ((h _ (bB (by omega) fun id hid=>rfl)).wcall fun so hso=>?_)
 rw [aH]
 obtain ⟨n',low',o',e1,h1,h2⟩:=cH hso
 rw [e1]
 simp +contextual +decide (maxSteps:=1000000) only [↓ wP,wQ,tf,Nat.reduceAdd,ne_eq,aX,aI]
 exact bB (by omega) h2
theorem CE {O:bP} (ho:∀ a σ,O 112 a σ=none) (ho':∀ a σ,O 103 a σ=none) (ho1:∀ a σ,O 104 a σ=none) (ho2:∀ a σ,O 71 a σ=none)
 (g:FuncId) (cap:List AV) (a:AV) (xs:List AV) (ha:Sl a xs) (m:Nat) (hlen:xs.length=m) (c:Nat->AV) (hix:∀ i,i<m->∀ {q:IntKind} {d:Option AV},eU (some 1) xs (.int q (i:Nat)) d=some (.pf (c i))) (hcl:∀ i,i<m->(c i).isCell=true) (p:Nat->Bool) (most:Nat) (s:Sto)
 (h:∀ i,i<m->∀ s',Sim s s'->RetS Try.prog O (.func (.func g) [] cap) [c i] s' (.bool (p i))):RetS Try.prog O (.func (.func 71) [] []) [a,.int .i64 (most:Nat),.func (.func g) [] cap] s (.bool (decide (m<=most)&&(List.range m).all p)):=by
 refine RetS.run (first:=[]) (args:=[a,.int .i64 (most:Nat),.func (.func g) [] cap]) (cap:=[]) aR (ho2 _ _) (by kernel_rfl) Try.func71 Try.ntmps71 Try.results71 rfl rfl ?_
 obtain ⟨n0,low0,o0⟩:=s
 show Wk _ _ _ _ ⟨17,none,71,Tr.leaf.lay 0 [a,.int .i64 (most:Nat),.func (.func g) [] cap],[],⟨n0,n0,o0⟩,.no⟩ _
 have d1:(((m:Nat):Int)<=(most:Nat))=(m<=most):=propext (by omega)
 by_cases hl:m<=most
 ·simp +contextual +decide (maxSteps:=1000000) only [↓ wP,wQ,tf,Nat.reduceAdd,ne_eq,ha.len,hlen,d1,hl,ho',aN]
  refine bL (ho' _ _) ((EU ho ho' 104 [.ptr n0 0 0] a xs ha m hlen c hix hcl (fun i=>!p i) ⟨n0+1,n0,o0.set n0 (bE 0 [.func (.func g) [] cap])⟩ fun i hi s' hs=>?_).wcall fun so hso=>?_)
  ·refine MA ho1 g cap (c i) (p i) n0 s' (hs.get ?_) fun s'' hs'=>h i hi s'' ?_
   ·rw [Sto.get_mk (by omega),Tr.get_set_same]
   ·exact (bB (by omega) fun id hid=>by rw [Tr.get_set_ne _ _ (by omega)]:Sim ⟨n0,low0,o0⟩ ⟨n0+1,n0,o0.set n0 (bE 0 [.func (.func g) [] cap])⟩).trans (hs.trans hs')
  ·rw [aH]
   obtain ⟨n',low',o',e1,h1,h2⟩:=cH hso
   rw [e1]
   have hany:((List.range m).any fun x=>!p x) = !(List.range m).all p:=by rw [<-List.not_all_eq_any_not]
   rw [hany]
   simp +contextual +decide (maxSteps:=1000000) only [↓ wP,wQ,tf,Nat.reduceAdd,ne_eq,aX,aI,Bool.not_not]
   exact bB (by omega) (fun id hid=>by rw [h2 id (by omega),Tr.get_set_ne _ _ (by omega)])
 ·simp +contextual +decide (maxSteps:=1000000) only [↓ wP,wQ,tf,Nat.reduceAdd,ne_eq,ha.len,hlen,d1,hl,aX,aI]
  exact ⟨by simp,bB (by omega) (fun id hid=>by rw [Tr.get_set_ne _ _ (by omega)])⟩
end
end Go.Proofs.Ytajngkkihadgfaa
/-
 The reference of images: worlds that can be stored.
-/
namespace Go.Proofs.Ytajngkkihadgfaa
open Go.Abs Go Go.Abs.TryF
noncomputable section
set_option maxRecDepth 10000
def AZ:List AV->Option AV
 | [a]=>(nL a).map fun w=>.bool (mL w)
 | _=>none
theorem PZ {a:AV} {w:Wd} (h:nL a=some w):AZ [a]=some (.bool (mL w)):=by simp [AZ,h]
theorem CF {w:Wd}:mL w=true↔w.objs.length<=120/\w.tasks.length<=120/\w.outs.length<=100/\w.ins.length<=50/\iU w.used 0 1073741824=true/\
 w.objs.all (sE w.objs.length)=true/\w.tasks.all (fun t=>iU t 0 ((w.objs.length:Int)-1))=true/\w.outs.all mB=true/\w.ins.all cS=true:=by
 simp only [mL,Bool.and_eq_true,decide_eq_true_eq,and_assoc]
theorem wH {w:Wd} (h:¬ (w.objs.length<=120/\w.tasks.length<=120/\w.outs.length<=100/\w.ins.length<=50/\iU w.used 0 1073741824=true/\
 w.objs.all (sE w.objs.length)=true/\w.tasks.all (fun t=>iU t 0 ((w.objs.length:Int)-1))=true/\w.outs.all mB=true/\w.ins.all cS=true)):mL w=false:=by
 cases hk:mL w with
 | false=>rfl
 | true=>exact absurd (CF.1 hk) h
theorem wI {α:Type} {l:List α} {i:Nat} {d:α} (h:i<l.length):l.getD i d∈l:=by rw [aT h];exact List.getElem_mem _
end
end Go.Proofs.Ytajngkkihadgfaa
/-
 The program of images: worlds that can be stored.
-/
namespace Go.Proofs.Ytajngkkihadgfaa
open Go.Abs Go Go.Abs.TryF
noncomputable section
set_option maxRecDepth 10000
theorem aAv {O:bP} (ho:∀ a σ,O 99 a σ=none) (n:Int) (c:Nat) (x:eA) (s:Sto) (hc:s.get c=some (bE 0 [.int .i64 n])):RetS Try.prog O (.func (.func 99) [] [.ptr c 0 0]) [fJ x] s (.bool (lG n x)):=by
 refine RetS.run (first:=[]) (args:=[fJ x]) (cap:=[.ptr c 0 0]) aR (ho _ _) (by kernel_rfl) Try.func99 Try.ntmps99 Try.results99 rfl rfl ?_
 obtain ⟨n0,low0,o0⟩:=s
 have hcn:c<n0:=Sto.get_lt hc
 rw [Sto.get_mk hcn]at hc
 have f0:=bK hcn
 obtain ⟨k,m⟩:=x
 show Wk _ _ _ _ ⟨13,none,99,Tr.leaf.lay 0 [.agg [.int .i64 k,.int .i64 m],.ptr c 0 0],[],⟨n0,n0,o0⟩,.no⟩ _
 by_cases h5:k=5
 ·by_cases hm:m<n
  ·simp +contextual +decide (maxSteps:=1000000) only [↓ wP,wQ,tf,Nat.reduceAdd,ne_eq,hc,f0,bF,h5,hm,aX,aI]
   refine ⟨?_,bB (by omega) fun id hid=>by rw [Tr.get_set_ne _ _ (by omega)]⟩
   simp only [lG,decide_eq_true h5,decide_eq_false (show ¬ n<=m by omega)];rfl
  ·simp +contextual +decide (maxSteps:=1000000) only [↓ wP,wQ,tf,Nat.reduceAdd,ne_eq,hc,f0,bF,h5,hm,aX,aI]
   refine ⟨?_,bB (by omega) fun id hid=>by rw [Tr.get_set_ne _ _ (by omega)]⟩
   simp only [lG,decide_eq_true h5,decide_eq_true (show n<=m by omega)];rfl
 ·simp +contextual +decide (maxSteps:=1000000) only [↓ wP,wQ,tf,Nat.reduceAdd,ne_eq,hc,f0,bF,h5,aX,aI]
  refine ⟨?_,bB (by omega) fun id hid=>by rw [Tr.get_set_ne _ _ (by omega)]⟩
  simp only [lG,decide_eq_false h5];rfl
def pG (n:Int) (l:List eA):Bool:=decide (l.length<=30)&&yM n l
def zS (n:Int) (f:Fr):Bool:=pG n f.env&&pG n f.vals
def CG (n:Int) (o:Ob):Bool:=pG n o.vals&&(decide (o.frs.length<=40)&&o.frs.all (zS n))
theorem MB {n:Int} {o:Ob} (h:gV o=true):CG n o=jD n o:=by
 obtain ⟨_,_,h3,h4,h5⟩:=qA h
 have e1:pG n o.vals=yM n o.vals:=by rw [pG,decide_eq_true (gE h3).1];rfl
 have e2:o.frs.all (zS n)=o.frs.all (PP n):=by
  have:∀ l:List Fr,(∀ f∈l,nP f=true)->l.all (zS n)=l.all (PP n):=by
   intro l
   induction l with
   | nil=>intro _;rfl
   | cons f l ih=>
     intro hl
     obtain ⟨_,_,g1,g2⟩:=CX (hl f (List.mem_cons_self ..))
     rw [List.all_cons,List.all_cons,ih fun g hg=>hl g (List.mem_cons_of_mem _ hg)]
     congr 1
     rw [zS,PP,pG,pG,decide_eq_true (gE g1).1,decide_eq_true (gE g2).1];rfl
  exact this _ h5
 rw [CG,jD,e1,e2,decide_eq_true h4,Bool.true_and,Bool.and_comm]
abbrev ONr (O:bP):Prop:=(∀ a σ,O 114 a σ=none)/\(∀ a σ,O 107 a σ=none)/\(∀ a σ,O 108 a σ=none)/\(∀ a σ,O 82 a σ=none)/\(∀ a σ,O 99 a σ=none)
theorem yO {O:bP} (ho:ONr O) (n:Int) (c:Nat) (a:AV) (l:List eA) (h:cE a=some l) (s:Sto) (hc:s.get c=some (bE 0 [.int .i64 n])):
 RetS Try.prog O (.func (.func 82) [] []) [a,.int .i64 30,.func (.func 99) [] [.ptr c 0 0]] s (.bool (pG n l)):=
 everyVals ho.1 ho.2.1 ho.2.2.1 ho.2.2.2.1 99 [.ptr c 0 0] a l (hH h) (lG n) 30 s fun x _ s' hs=>aAv ho.2.2.2.2 n c x s' (hs.get hc)
theorem VW {O:bP} (ho:ONr O) (ho':∀ a σ,O 100 a σ=none) (n:Int) (c d:Nat) (cs:List AV) (f:Fr) (hf:sM (.agg cs)=some f) (s:Sto) (hc:s.get c=some (bE 0 [.int .i64 n])) (hd:s.get d=some (bE 0 [.func (.func 99) [] [.ptr c 0 0]])):
 RetS Try.prog O (.func (.func 100) [] [.ptr d 0 0]) [.agg cs] s (.bool (zS n f)):=by
 obtain ⟨e,v,he0,he,hv⟩:=nR hf
 cases he0
 have ce:=cL he
 have cv:=cL hv
 refine RetS.run (first:=[]) (args:=[.agg [.int .i64 f.node,e,v]]) (cap:=[.ptr d 0 0]) aR (ho' _ _) (by kernel_rfl) Try.func100 Try.ntmps100 Try.results100 rfl rfl ?_
 have hc0:=hc
 have hd0:=hd
 obtain ⟨n0,low0,o0⟩:=s
 have hcn:c<n0:=Sto.get_lt hc
 have hdn:d<n0:=Sto.get_lt hd
 rw [Sto.get_mk hcn]at hc
 rw [Sto.get_mk hdn]at hd
 have f0:=bK hcn
 have f1:=bK hdn
 show Wk _ _ _ _ ⟨14,none,100,Tr.leaf.lay 0 [.agg [.int .i64 f.node,e,v],.ptr d 0 0],[],⟨n0,n0,o0⟩,.no⟩ _
 simp +contextual +decide (maxSteps:=1000000) only [↓ wP,wQ,tf,Nat.reduceAdd,ne_eq,hd,f1,bF,ce,cv,ho.2.2.2.1,aN]
 refine bL (ho.2.2.2.1 _ _) ((yO ho n c e f.env he _ (by rw [Sto.get_mk (by omega),Tr.get_set_ne _ _ (by omega)];exact hc)).wcall fun so hso=>?_)
 rw [aH]
 obtain ⟨n1,low1,o1,e1,h1,h2⟩:=cH hso
 rw [e1]
 have g0:o1.get n0=some (bE 0 [.int .i64 f.node,e,v]):=by rw [h2 n0 (by omega),Tr.get_set_same]
 have gc:o1.get c=some (bE 0 [.int .i64 n]):=by rw [h2 c (by omega),Tr.get_set_ne _ _ (by omega)];exact hc
 have gd:o1.get d=some (bE 0 [.func (.func 99) [] [.ptr c 0 0]]):=by rw [h2 d (by omega),Tr.get_set_ne _ _ (by omega)];exact hd
 have f2:=bK (show n0<n1 by omega)
 have f3:=bK (show d<n1 by omega)
 cases k1:pG n f.env with
 | false=>
   simp +contextual +decide (maxSteps:=1000000) only [↓ wP,wQ,tf,Nat.reduceAdd,ne_eq,aX,aI]
   refine ⟨by rw [zS,k1];rfl,bB (by omega) fun id hid=>by rw [h2 id (by omega),Tr.get_set_ne _ _ (by omega)]⟩
 | true=>
   simp +contextual +decide (maxSteps:=1000000) only [↓ wP,wQ,tf,Nat.reduceAdd,ne_eq,g0,gd,f2,f3,ce,cv,ho.2.2.2.1,aN]
   refine bL (ho.2.2.2.1 _ _) ((yO ho n c v f.vals hv _ (by rw [Sto.get_mk (by omega)];exact gc)).wcall fun so hso=>?_)
   rw [aH]
   obtain ⟨n2,low2,o2,e2,h3,h4⟩:=cH hso
   rw [e2]
   simp +contextual +decide (maxSteps:=1000000) only [↓ wP,wQ,tf,Nat.reduceAdd,ne_eq,aX,aI]
   refine ⟨by rw [zS,k1];rfl,bB (by omega) fun id hid=>by rw [h4 id (by omega),h2 id (by omega),Tr.get_set_ne _ _ (by omega)]⟩
def lI:List AV->Option AV
 | [a,.int .i64 n]=>(fG a).map fun o=>.bool (CG n o)
 | _=>none
theorem uO {a:AV} {o:Ob} {n:Int} (h:fG a=some o):lI [a,.int .i64 n]=some (.bool (CG n o)):=by simp [lI,h]
theorem referring_ok:Abs.Ok Try.prog 65 lI:=by
 intro args v hg
 unfold lI at hg
 split at hg
 rotate_left
 ·cases hg
 rename_i a n
 obtain ⟨o,ho,rfl⟩:=Option.map_eq_some_iff.1 hg
 have hund:=(wY ho).und
 obtain ⟨vs,fs,rfl,hvs,hfs⟩:=jL ho
 have c1:=cL hvs
 have c2:=iJ hfs
 refine bQ (L:=[]) bC aR (by kernel_rfl) Try.func65 Try.ntmps65 Try.results65 rfl rfl (aF hund (aF aV aO)) gQ ?_
 have hON:ONr (orcL []):=⟨fun _ _=>rfl,fun _ _=>rfl,fun _ _=>rfl,fun _ _=>rfl,fun _ _=>rfl⟩
 simp +contextual +decide (maxSteps:=1000000) only [↓ wP,wQ,tf,Nat.reduceAdd,ne_eq,c1,c2,hON.2.2.2.1,aN]
 refine bL rfl ((yO hON n 1 vs o.vals hvs _ (by simp +contextual +decide (maxSteps:=1000000) only [↓ wP,wQ,tf,Nat.reduceAdd,ne_eq])).wcall fun so hso=>?_)
 rw [aH]
 obtain ⟨n1,low1,o1,e1,h1,h2⟩:=cH hso
 rw [e1]
 have g0:o1.get 0=some (bE 0 [.int .i64 o.form,.int .i64 o.n,vs,fs]):=by rw [h2 0 (by omega)];simp [Tr.get_set]
 have g1:o1.get 1=some (bE 0 [.int .i64 n]):=by rw [h2 1 (by omega)];simp [Tr.get_set]
 have g2:o1.get 2=some (bE 0 [.func (.func 99) [] [.ptr 1 0 0]]):=by rw [h2 2 (by omega)];simp [Tr.get_set]
 have f0:=bK (show 0<n1 by omega)
 cases k1:pG n o.vals with
 | false=>
   simp +contextual +decide (maxSteps:=1000000) only [↓ wP,wQ,tf,Nat.reduceAdd,ne_eq]
   rw [CG,k1];rfl
 | true=>
   obtain ⟨xs,c,q1,q2,q3⟩:=yS hfs
   simp +contextual +decide (maxSteps:=1000000) only [↓ wP,wQ,tf,Nat.reduceAdd,ne_eq,g0,f0,c1,c2,show ∀ a σ,orcL [] 84 a σ=none from fun _ _=>rfl,aN]
   have:=CS (O:=orcL []) (fun _ _=>rfl) (fun _ _=>rfl) (fun _ _=>rfl) (fun _ _=>rfl) 100 [.ptr 2 0 0] fs xs q1 o.frs.length q2 c (fun i hi {q d}=>(q3 i hi).1) (fun i hi=>(q3 i hi).2.1) (fun i hi=>(q3 i hi).2.2.1) (fun i=>zS n (o.frs.getD i default)) 40 ⟨n1,low1,o1⟩ (fun i hi s' hs=>VW hON (fun _ _=>rfl) n 1 2 (c i) _ (q3 i hi).2.2.2 s' (hs.get (by rw [Sto.get_mk (by omega)];exact g1)) (hs.get (by rw [Sto.get_mk (by omega)];exact g2)))
   rw [lJ]at this
   refine bL rfl (this.wcall fun so hso=>?_)
   rw [aH]
   obtain ⟨n2,low2,o2,e2,h3,h4⟩:=cH hso
   rw [e2]
   simp +contextual +decide (maxSteps:=1000000) only [↓ wP,wQ,tf,Nat.reduceAdd,ne_eq]
   rw [CG,k1];rfl
abbrev LSt:List kL:=[ent 67 inV,ent 69 nE,ent 44 nF,ent 65 lI]
theorem aFy (n:Int) (c:Nat) (cs:List AV) (o:Ob) (hl:cs.length=4) (hcc:cs.all AV.isCell=true) (ho:fG (.agg cs)=some o) (s:Sto) (hc:s.get c=some (bE 0 [.int .i64 n])):RetS Try.prog (orcL LSt) (.func (.func 64) [] [.ptr c 0 0]) [.agg cs] s (.bool (sE n o)):=by
 refine RetS.run (first:=[]) (args:=[.agg cs]) (cap:=[.ptr c 0 0]) aR rfl (by kernel_rfl) Try.func64 Try.ntmps64 Try.results64 rfl rfl ?_
 obtain ⟨n0,low0,o0⟩:=s
 have hcn:c<n0:=Sto.get_lt hc
 rw [Sto.get_mk hcn]at hc
 have f0:=bK hcn
 have e1:=wV ho
 have e2:=uO (n:=n) ho
 have hz:0+4<=cs.length:=by omega
 have hls:aG cs 0 4=cs:=by unfold aG;rw [List.drop_zero,List.take_of_length_le (by omega)]
 show Wk _ _ _ _ ⟨11,none,64,Tr.leaf.lay 0 [.agg cs,.ptr c 0 0],[],⟨n0,n0,o0⟩,.no⟩ _
 cases k1:gV o with
 | false=>
   simp +contextual +decide (maxSteps:=1000000) only [↓ wP,wQ,tf,Nat.reduceAdd,ne_eq,hc,hl,hcc,hz,hls,f0,bF,e1,k1,aX,aI]
   refine ⟨by rw [sE,k1];rfl,bB (by omega) fun id hid=>by rw [Tr.get_set_ne _ _ (by omega)]⟩
 | true=>
   simp +contextual +decide (maxSteps:=1000000) only [↓ wP,wQ,tf,Nat.reduceAdd,ne_eq,hc,hl,hcc,hz,hls,f0,bF,e1,e2,k1,aX,aI]
   refine ⟨by rw [sE,k1,MB k1];rfl,bB (by omega) fun id hid=>by rw [Tr.get_set_ne _ _ (by omega)]⟩
theorem aFz (n:Int) (c:Nat) (x:Int) (s:Sto) (hn:0<=n/\n<=9223372036854775807) (hc:s.get c=some (bE 0 [.int .i64 n])):RetS Try.prog (orcL LSt) (.func (.func 66) [] [.ptr c 0 0]) [pI x] s (.bool (iU x 0 (n-1))):=by
 refine RetS.run (first:=[]) (args:=[pI x]) (cap:=[.ptr c 0 0]) aR rfl (by kernel_rfl) Try.func66 Try.ntmps66 Try.results66 rfl rfl ?_
 obtain ⟨n0,low0,o0⟩:=s
 have hcn:c<n0:=Sto.get_lt hc
 rw [Sto.get_mk hcn]at hc
 have f0:=bK hcn
 have e1:IntKind.i64.wrap (n-1)=n-1:=IntWalk.i64_in _ (by omega)
 show Wk _ _ _ _ ⟨8,none,66,Tr.leaf.lay 0 [.int .i64 x,.ptr c 0 0],[],⟨n0,n0,o0⟩,.no⟩ _
 simp +contextual +decide (maxSteps:=1000000) only [↓ wP,wQ,tf,Nat.reduceAdd,ne_eq,hc,f0,bF,e1,jM,aX,aI]
 exact bB (by omega) fun id hid=>rfl
theorem aGa (x:eA) (s:Sto):RetS Try.prog (orcL LSt) (.func (.func 68) [] []) [fJ x] s (.bool (mB x)):=by
 refine RetS.run (first:=[]) (args:=[fJ x]) (cap:=[]) aR rfl (by kernel_rfl) Try.func68 Try.ntmps68 Try.results68 rfl rfl ?_
 obtain ⟨n0,low0,o0⟩:=s
 obtain ⟨k,m⟩:=x
 show Wk _ _ _ _ ⟨11,none,68,Tr.leaf.lay 0 [.agg [.int .i64 k,.int .i64 m]],[],⟨n0,n0,o0⟩,.no⟩ _
 cases k1:cS k with
 | false=>
   simp +contextual +decide (maxSteps:=1000000) only [↓ wP,wQ,tf,Nat.reduceAdd,ne_eq,bF,eE,k1,aX,aI]
   refine ⟨by simp only [mB,k1];rfl,bB (by omega) fun id hid=>by rw [Tr.get_set_ne _ _ (by omega)]⟩
 | true=>
   simp +contextual +decide (maxSteps:=1000000) only [↓ wP,wQ,tf,Nat.reduceAdd,ne_eq,bF,eE,k1,aX,aI]
   refine ⟨by simp only [mB,k1];rfl,bB (by omega) fun id hid=>by rw [Tr.get_set_ne _ _ (by omega)]⟩
theorem CH {a:AV} {l:List eA} (h:cE a=some l):∀ i,i<l.length->∀ {q:IntKind} {d:Option AV},eU (some 2) (l.map fJ) (.int q (i:Nat)) d=some (.pf (.agg (dW (l.getD i default)))):=fun i hi {q d}=>aKw l hi
theorem nM {l:List Int}:∀ i,i<l.length->∀ {q:IntKind} {d:Option AV},eU (some 1) (l.map pI) (.int q (i:Nat)) d=some (.pf (pI (l.getD i default))):=fun i hi {q d}=>qE aCe (by omega) (by omega)
set_option maxHeartbeats 2000000 in
theorem stored_ok:Abs.Ok Try.prog 40 AZ:=by
 intro args v hg
 match args,hg with
 | [a],hg=>
   obtain ⟨w,hw,rfl⟩:=Option.map_eq_some_iff.1 hg
   have hund:=(LX hw).und
   obtain ⟨os,ts,us,is,rfl,h1,h2,h3,h4,c1,c2,c3,c4⟩:=wG hw
   obtain ⟨xs,c,hsl,hlen,hat⟩:=yN h1
   have s2:=lH h2
   have s3:=hH h3
   have s4:=lH h4
   have hll:=hsl.2
   refine bQ (L:=LSt) (elist_cons iIn_ok.ent (elist_cons iNumber_ok.ent (elist_cons formed_ok.ent (elist_cons referring_ok.ent bC)))) aR (by kernel_rfl) Try.func40 Try.ntmps40 Try.results40 rfl rfl (aF hund aO) gQ ?_
   have hO:∀ a σ,orcL LSt 70 a σ=none:=fun _ _=>rfl
   have hI:∀ a σ,orcL LSt 71 a σ=none:=fun _ _=>rfl
   have hU:∀ a σ,orcL LSt 72 a σ=none:=fun _ _=>rfl
   simp +contextual +decide (maxSteps:=1000000) only [↓ wP,wQ,tf,Nat.reduceAdd,ne_eq,c1,c2,c3,c4,hsl.len,hlen,hO,aN]
   have r1:=fun (s:Sto) (hs:s.get 1=some (bE 0 [.int .i64 (w.objs.length:Nat)]))=>PV (O:=orcL LSt) (fun _ _=>rfl) (fun _ _=>rfl) (fun _ _=>rfl) hO 64 [.ptr 1 0 0] os xs hsl w.objs.length hlen c (fun i hi {q d}=>(hat i hi).1) (fun i hi=>(hat i hi).2.1) (fun i hi=>(hat i hi).2.2.1) (fun i=>sE w.objs.length (w.objs.getD i default)) 120 s
    (fun i hi s' hs'=>aFy w.objs.length 1 (c i) _ (hat i hi).2.1 (hat i hi).2.2.1 (hat i hi).2.2.2 s' (hs'.get hs))
   refine bL rfl ((r1 _ (by simp +contextual +decide (maxSteps:=1000000) only [↓ wP,wQ,tf,Nat.reduceAdd,ne_eq])).wcall fun so hso=>?_)
   rw [lJ,aH]
   obtain ⟨n1,low1,o1,e1,h5,h6⟩:=cH hso
   rw [e1]
   clear e1 hso
   have g0:o1.get 0=some (bE 0 [os,ts,us,is,.int .i64 w.used]):=by rw [h6 0 (by omega)];simp [Tr.get_set]
   have g1:o1.get 1=some (bE 0 [.int .i64 (w.objs.length:Nat)]):=by rw [h6 1 (by omega)];simp [Tr.get_set]
   have f0:=bK (show 0<n1 by omega)
   cases k1:(decide (w.objs.length<=120)&&w.objs.all (sE w.objs.length)) with
   | false=>
     simp +contextual +decide (maxSteps:=1000000) only [↓ wP,wQ,tf,Nat.reduceAdd,ne_eq]
     rw [wH fun h=>by rw [decide_eq_true h.1,h.2.2.2.2.2.1]at k1;cases k1]
   | true=>
   simp +contextual +decide (maxSteps:=1000000) only [↓ wP,wQ,tf,Nat.reduceAdd,ne_eq,g0,f0,c1,c2,c3,c4,hI,aN]
   have r2:=fun (s:Sto) (hs:s.get 1=some (bE 0 [.int .i64 (w.objs.length:Nat)]))=>CE (O:=orcL LSt) (fun _ _=>rfl) (fun _ _=>rfl) (fun _ _=>rfl) hI 66 [.ptr 1 0 0] ts _ s2 w.tasks.length (by simp) (fun i=>pI (w.tasks.getD i default)) (fun i hi {q d}=>nM i hi) (fun i hi=>rfl) (fun i=>iU (w.tasks.getD i default) 0 ((w.objs.length:Int)-1)) 120 s
    (fun i hi s' hs'=>aFz w.objs.length 1 _ s' (by omega) (hs'.get hs))
   refine bL rfl ((r2 _ (by rw [Sto.get_mk (by omega)];exact g1)).wcall fun so hso=>?_)
   rw [lJ w.tasks (fun t=>iU t 0 ((w.objs.length:Int)-1)),aH]
   obtain ⟨n2,low2,o2,e1,h7,h8⟩:=cH hso
   rw [e1]
   clear e1 hso
   have g0':o2.get 0=some (bE 0 [os,ts,us,is,.int .i64 w.used]):=by rw [h8 0 (by omega)];exact g0
   have f0':=bK (show 0<n2 by omega)
   cases k2:(decide (w.tasks.length<=120)&&w.tasks.all (fun t=>iU t 0 ((w.objs.length:Int)-1))) with
   | false=>
     simp +contextual +decide (maxSteps:=1000000) only [↓ wP,wQ,tf,Nat.reduceAdd,ne_eq]
     rw [wH fun h=>by rw [decide_eq_true h.2.1,h.2.2.2.2.2.2.1]at k2;cases k2]
   | true=>
   simp +contextual +decide (maxSteps:=1000000) only [↓ wP,wQ,tf,Nat.reduceAdd,ne_eq,g0',f0',c1,c2,c3,c4,hU,aN]
   have r3:=fun (s:Sto)=>PX (O:=orcL LSt) (fun _ _=>rfl) (fun _ _=>rfl) (fun _ _=>rfl) hU 68 [] us _ s3 w.outs.length (by simp) (fun i=>dW (w.outs.getD i default)) (fun i hi {q d}=>CH h3 i hi) (fun _ _=>rfl) (fun _ _=>rfl) (fun i=>mB (w.outs.getD i default)) 100 s
    (fun i hi s' hs'=>aGa _ s')
   refine bL rfl ((r3 _).wcall fun so hso=>?_)
   rw [lJ w.outs mB,aH]
   obtain ⟨n3,low3,o3,e1,h9,h10⟩:=cH hso
   rw [e1]
   clear e1 hso
   have g0'':o3.get 0=some (bE 0 [os,ts,us,is,.int .i64 w.used]):=by rw [h10 0 (by omega)];exact g0'
   have f0'':=bK (show 0<n3 by omega)
   cases k3:(decide (w.outs.length<=100)&&w.outs.all mB) with
   | false=>
     simp +contextual +decide (maxSteps:=1000000) only [↓ wP,wQ,tf,Nat.reduceAdd,ne_eq]
     rw [wH fun h=>by rw [decide_eq_true h.2.2.1,h.2.2.2.2.2.2.2.1]at k3;cases k3]
   | true=>
   simp +contextual +decide (maxSteps:=1000000) only [↓ wP,wQ,tf,Nat.reduceAdd,ne_eq,g0'',f0'',c1,c2,c3,c4,hI,aN]
   have r4:=fun (s:Sto)=>CE (O:=orcL LSt) (fun _ _=>rfl) (fun _ _=>rfl) (fun _ _=>rfl) hI 69 [] is _ s4 w.ins.length (by simp) (fun i=>pI (w.ins.getD i default)) (fun i hi {q d}=>nM i hi) (fun i hi=>rfl) (fun i=>cS (w.ins.getD i default)) 50 s
    (fun i hi s' hs'=>.orc rfl)
   refine bL rfl ((r4 _).wcall fun so hso=>?_)
   rw [lJ w.ins cS,aH]
   obtain ⟨n4,low4,o4,e1,h11,h12⟩:=cH hso
   rw [e1]
   clear e1 hso
   have g0''':o4.get 0=some (bE 0 [os,ts,us,is,.int .i64 w.used]):=by rw [h12 0 (by omega)];exact g0''
   have f0''':=bK (show 0<n4 by omega)
   cases k4:(decide (w.ins.length<=50)&&w.ins.all cS) with
   | false=>
     simp +contextual +decide (maxSteps:=1000000) only [↓ wP,wQ,tf,Nat.reduceAdd,ne_eq]
     rw [wH fun h=>by rw [decide_eq_true h.2.2.2.1,h.2.2.2.2.2.2.2.2]at k4;cases k4]
   | true=>
   simp only [Bool.and_eq_true,decide_eq_true_eq]at k1 k2 k3 k4
   cases k5:iU w.used 0 1073741824 with
   | false=>
     simp +contextual +decide (maxSteps:=1000000) only [↓ wP,wQ,tf,Nat.reduceAdd,ne_eq,g0''',f0''',c1,c2,c3,c4,jM,k5]
     rw [wH fun h=>by rw [h.2.2.2.2.1]at k5;cases k5]
   | true=>
     simp +contextual +decide (maxSteps:=1000000) only [↓ wP,wQ,tf,Nat.reduceAdd,ne_eq,g0''',f0''',c1,c2,c3,c4,jM,k5]
     rw [CF.2 ⟨k1.1,k2.1,k3.1,k4.1,k5,k1.2,k2.2,k3.2,k4.2⟩]
end
end Go.Proofs.Ytajngkkihadgfaa
/-
 The layer of images: pages and their checks.
-/
namespace Go.Proofs.Ytajngkkihadgfaa
open Go.Abs Go Go.Abs.TryF
noncomputable section
set_option maxRecDepth 10000
theorem aKo {a:Nat} (h:a<65536):IntKind.u8.wrap (Int.fdiv (a:Int) (2 ^ min 8 IntKind.i64.bits))=((a/256:Nat):Int):=by
 have:(2:Int) ^ min 8 IntKind.i64.bits=256:=by decide
 rw [this,Int.fdiv_eq_ediv_of_nonneg _ (by omega),show ((a:Int)/256)=((a/256:Nat):Int) by omega,vE];omega
def oL (n:Nat):AV:=.int .i64 (n:Nat)
def aE (s:List Nat):Nat:=if s.length%32≠0∨256<s.length/32 then 0 else s.length/32
theorem uY (s:List Nat) (hs:s.length<9223372036854775808):Abs.Returns Try.prog 32 [.str s] (.int .i64 (aE s:Nat)):=by
 refine bQ (L:=[]) bC aR (by kernel_rfl) Try.func32 Try.ntmps32 Try.results32 rfl rfl (aF fL aO) aV ?_
 have e1:IntKind.i64.wrap (Int.tdiv (s.length:Nat) 32)=((s.length/32:Nat):Int):=by
  rw [Int.tdiv_eq_ediv_of_nonneg (by omega),IntWalk.i64_in _ (by omega)];omega
 have e2:Int.tmod ((s.length:Nat):Int) 32=((s.length%32:Nat):Int):=by
  rw [Int.tmod_eq_emod_of_nonneg (by omega)];omega
 simp +contextual +decide only [↓ fP,↓ aB,dC,aD,aC,aS,rU,rX,gX,tf,e1,e2]
 unfold aE
 by_cases h1:s.length%32=0
 ·by_cases h2:256<s.length/32
  ·simp [h1,h2];omega
  ·simp [h1,h2];omega
 ·simp [h1];omega
def step (x:Nat × Nat) (c:Nat):Nat × Nat:=((x.1+c)%257,(x.2+(x.1+c)%257)%257)
def aAx (n:Nat) (l:List Nat):Nat × Nat:=l.foldl step (n+1,0)
def dM (n:Nat) (p:List Nat):List Nat:=[(aAx n (p.take 28)).1/256,(aAx n (p.take 28)).1%256,(aAx n (p.take 28)).2/256,(aAx n (p.take 28)).2%256]
theorem tF (x:Nat × Nat) (c:Nat):(step x c).1<257/\(step x c).2<257:=⟨Nat.mod_lt _ (by omega),Nat.mod_lt _ (by omega)⟩
theorem MC (p:List Nat) (n:Nat) (hp:p.length=32) (hb:∀ b∈p,b<256) (hn:n<4611686018427387904):Abs.Returns Try.prog 63 [.agg (p.map encB),.int .i64 (n:Nat)] (.agg ((dM n p).map encB)):=by
 refine bQ (L:=[]) bC aR (by kernel_rfl) Try.func63 Try.ntmps63 Try.results63 rfl rfl (aF (tP (by simp only [List.mem_map];rintro x ⟨b,_,rfl⟩;exact DE b)) (aF aV aO)) (tP (by simp only [List.mem_map];rintro x ⟨b,_,rfl⟩;exact DE b)) ?_
 simp +contextual +decide only [↓ fP,↓ aB,dC,aD,aC,aS,rU,gW,rX,gX,tf,hp,bH (show n<9223372036854775807 by omega),Int.reduceToNat,Nat.reduceAdd]
 have hlen:(p.take 28).length=28:=by simp [hp]
 let S:Nat->Nat × Nat:=fun i=>(p.take i).foldl step (n+1,0)
 have hS1:∀ i,(S i).1<4611686018427387905:=by
  intro i
  cases i with
  | zero=>simp only [S,List.take_zero,List.foldl_nil];omega
  | succ i=>
    by_cases hi:i<p.length
    ·simp only [S,List.take_succ_eq_append_getElem hi,List.foldl_append,List.foldl_cons,List.foldl_nil]
     have:=(tF ((p.take i).foldl step (n+1,0)) p[i]).1;omega
    ·have e1:p.take (i+1)=p.take 31++[p.getD 31 0]:=by
      rw [List.take_of_length_le (by omega),aT (show 31<p.length by omega)]
      have:=List.take_succ_eq_append_getElem (show 31<p.length by omega)
      rw [<-this,List.take_of_length_le (by omega)]
     simp only [S,e1,List.foldl_append,List.foldl_cons,List.foldl_nil]
     have:=(tF ((p.take 31).foldl step (n+1,0)) (p.getD 31 0)).1;omega
 have hS2:∀ i,i<=28->(S i).2<257:=by
  intro i hi
  cases i with
  | zero=>simp only [S,List.take_zero,List.foldl_nil];omega
  | succ i=>
    have hi':i<p.length:=by omega
    simp only [S,List.take_succ_eq_append_getElem hi',List.foldl_append,List.foldl_cons,List.foldl_nil]
    exact (tF ((p.take i).foldl step (n+1,0)) p[i]).2
 have hSs:∀ i,i<28->S (i+1)=step (S i) (p.getD i 0):=by
  intro i hi
  have hi':i<p.length:=by omega
  simp only [S,List.take_succ_eq_append_getElem hi',List.foldl_append,List.foldl_cons,List.foldl_nil,aT hi']
 refine cB (fun i e=>∃ t,e=⟨38,none,63,t,[],⟨2,0,(Tr.leaf.set 0 (bE 0 (List.map encB p))).set 1 (bE 0 [AV.int IntKind.u8 0,AV.int IntKind.u8 0,AV.int IntKind.u8 0,AV.int IntKind.u8 0])⟩,.no⟩/\t.val 4=.ptr 1 0 0/\t.val 5=.int .i64 ((S i).1:Nat)/\t.val 6=.int .i64 ((S i).2:Nat)/\t.val 11=.sl 0 0 0 28 (.is 32)/\t.val 12=.int .i64 (28:Nat)/\t.val 13=.int .i64 (i:Nat)/\i<=28) (fun i=>28-i) 0
  ⟨_,rfl,by simp +decide only [↓ aB],by simp +decide only [↓ aB];rfl,by simp +decide only [↓ aB];rfl,by simp +decide only [↓ aB],by simp +decide only [↓ aB],by simp +decide only [↓ aB];rfl,by omega⟩ ?_
 rintro i _ ⟨t,rfl,h4,h5,h6,h11,h12,h13,hi⟩
 by_cases hlt:i<28
 ·have d1:(i:Int)<(28:Nat):=by omega
  have d3:(0:Int)<=i:=by omega
  have d4:((i:Int)).toNat=i:=by omega
  have d5:=bH (i:=i) (by omega)
  have d6:(p.map encB)[i]?=some (encB (p.getD i 0)):=by
   have hi':i<p.length:=by omega
   simp [hi']
  have hc:p.getD i 0<256:=by rw [aT (show i<p.length by omega)];exact hb _ (List.getElem_mem _)
  have q1:=hS1 i
  have q2:=hS2 i (by omega)
  have e1:IntKind.i64.wrap ((p.getD i 0:Nat):Int)=((p.getD i 0:Nat):Int):=cF (by omega)
  have e2:IntKind.i64.wrap (((S i).1:Nat)+((p.getD i 0:Nat):Int))=(((S i).1+p.getD i 0:Nat):Int):=by rw [<-Int.natCast_add];exact cF (by omega)
  have e3:Int.tmod (((S i).1+p.getD i 0:Nat):Int) 257=(((S i).1+p.getD i 0)%257:Nat):=dB
  have e4:IntKind.i64.wrap (((S i).2:Nat)+((((S i).1+p.getD i 0)%257:Nat):Int))=(((S i).2+((S i).1+p.getD i 0)%257:Nat):Int):=by rw [<-Int.natCast_add];exact cF (by omega)
  have e5:Int.tmod (((S i).2+((S i).1+p.getD i 0)%257:Nat):Int) 257=(((S i).2+((S i).1+p.getD i 0)%257)%257:Nat):=dB
  simp +contextual +decide only [↓ fP,↓ aB,dC,aD,aC,aS,rU,gW,rX,gX,jY,tf,hp,h4,h5,h6,h11,h12,h13,d1,d3,d4,d5,d6,Int.reduceToNat,Nat.reduceAdd,Nat.zero_add,Nat.mul_one,encB,e1,e2,e3,e4,e5]
  exact ⟨i+1,by show _-_<_-_;omega,_,rfl,by simp +decide only [↓ aB,h4],by simp +decide only [↓ aB,hSs i hlt,step],by simp +decide only [↓ aB,hSs i hlt,step],
   by simp +decide only [↓ aB,h11],by simp +decide only [↓ aB,h12],by simp +decide only [↓ aB],hlt⟩
 ·have:i=28:=by omega
  subst this
  simp +contextual +decide only [↓ fP,↓ aB,dC,aD,aC,aS,rU,gW,rX,gX,jY,tf,hp,h4,h5,h6,h11,h12,h13,Int.reduceToNat,Nat.reduceAdd,Nat.zero_add,Nat.mul_one,DQ,aL,Option.bind_some]
  have k1:(S 28).1<257:=by rw [hSs 27 (by omega)];exact (tF _ _).1
  have k2:=hS2 28 (by omega)
  show AV.agg _=AV.agg (List.map encB [(S 28).1/256,(S 28).1%256,(S 28).2/256,(S 28).2%256])
  simp only [List.map_cons,List.map_nil,encB,aKo (show (S 28).1<65536 by omega),aKo (show (S 28).2<65536 by omega),vE]
def right (n:Nat) (p:List Nat):Bool:=decide (dM n p=p.drop 28)
theorem aNn:WS Try.prog 124=some (4,.u8):=by kernel_rfl
theorem VX {p:List Nat} (hp:p.length=32):aG p 28 4=p.drop 28:=by
 unfold aG;rw [List.take_of_length_le];simp [hp]
theorem fA {p:List Nat} {n:Nat} (hp:p.length=n):aG p 0 n=p:=by
 unfold aG;rw [List.drop_zero,List.take_of_length_le (by omega)]
theorem wJ (l:List Nat):l.map encB=(l.map Int.ofNat).map (.int .u8):=by rw [List.map_map];rfl
theorem GJ {l m:List Nat}:(l.map Int.ofNat=m.map Int.ofNat)=(l=m):=propext (List.map_inj_right fun _ _=>Int.ofNat.inj)
theorem aAy {p q:List Nat} (hp:p.length=4) (hq:q.length=4) {x y:Operand}:abin Try.prog .eql 124 x y (.agg (p.map encB)) (.agg (q.map encB))=some (.bool (decide (p=q))):=by
 rw [wJ,wJ,aCc aNn (by simpa using hp) (by simpa using hq)]
 simp only [GJ]
theorem aAz (p:List Nat) (n:Nat) (hp:p.length=32) (hb:∀ b∈p,b<256) (hn:n<4611686018427387904):Abs.Returns Try.prog 37 [.agg (p.map encB),.int .i64 (n:Nat)] (.bool (right n p)):=by
 refine bQ (L:=[IQ 63 [.agg (p.map encB),.int .i64 (n:Nat)] (.agg ((dM n p).map encB))]) (elist_cons (tK (MC p n hp hb hn)) bC) (fun _=>([2],[])) (by kernel_rfl) Try.func37 Try.ntmps37 Try.results37 rfl rfl (aF (tP (by simp only [List.mem_map];rintro x ⟨b,_,rfl⟩;exact DE b)) (aF aV aO)) gQ ?_
 simp +contextual +decide only [↓ fP,↓ aB,dC,aD,aC,aS,rU,gW,rX,gX,tf,hp,Int.reduceToNat,Nat.reduceAdd,Nat.reduceSub,Nat.zero_add,Nat.mul_one,qC,VX,fA,aAy (show (dM n p).length=4 from rfl) (show (p.drop 28).length=4 by simp [hp])]
 rfl
def uZ (s:List Nat):AV:=.func (.func 62) [] [.pf (.str s)]
theorem CI (s:List Nat):Abs.Returns Try.prog 33 [.str s] (uZ s):=by
 refine NK (L:=[]) bC aR (by kernel_rfl) Try.func33 Try.ntmps33 Try.results33 rfl rfl (aF fL aO) ?_
 simp +contextual +decide only [↓ fP,↓ aB,dC,aD,aC,aS,rU,gW,rX,gX,tf,Nat.reduceAdd]
 exact .func _ _ _ _ _ rfl rfl jX (bS (aGz (g:=0) (cs:=[.str s]) (Nat.le_refl _) rfl (Nat.le_refl _) (fun j x y hx hy=>by
  cases j with
  | zero=>simp [AV.cells]at hx hy;subst hx;subst hy;exact .und _ fL
  | succ j=>simp [AV.cells]at hy)) jX)
def aM (s:List Nat) (i:Nat):List Nat:=aG s (i*32) 32
def mM (s:List Nat):List (List AV):=(List.range (aE s)).map fun i=>[.int .i64 (i:Nat),.agg ((aM s i).map encB)]
theorem nN {s:List Nat} {i:Nat} (h:i<aE s):i*32+32<=s.length/\i<256:=by
 unfold aE at h
 split at h<;>omega
theorem dO {s:List Nat} {i:Nat} (h:i<aE s):(aM s i).length=32:=by
 have:=(nN h).1
 simp [aM,aG];omega
theorem pX {s:List Nat} (hb:∀ b∈s,b<256) (i:Nat):∀ b∈aM s i,b<256:=fun b h=>hb b (List.mem_of_mem_drop (List.mem_of_mem_take h))
theorem qW (s:List Nat) (hs:s.length<9223372036854775808) {O:bP} (h32:∀ σ,O 32 [.str s] σ=some (.ret (.int .i64 (aE s:Nat)) none)) (h62:∀ a σ,O 62 a σ=none):aNz Try.prog O (uZ s) (mM s):=by
 intro l J D X σ hl hJs hDs hXs hJ0 hr
 have hrow:(mM s).length=aE s:=by simp [mM]
 refine lN (h62 _ _) (by kernel_rfl) Try.func62 rfl (Wk.sound (H:=aR) ?_)
 rw [hrow]
 show Wk _ _ _ _ ⟨24,none,62,Tr.leaf.lay 0 [.func (.yield l) [] [],.pf (.str s)],[],⟨σ.n,σ.n,σ.o⟩,.no⟩ _
 simp +contextual +decide only [↓ fP,↓ aB,dC,aD,aC,aS,rU,gW,rX,gX,tf,Nat.reduceAdd,h32,jQ]
 refine cB (fun i e=>∃ t u,e=⟨24,none,62,t,[],u,.no⟩/\t.val 0=.func (.yield l) [] []/\t.val 1=.pf (.str s)/\t.val 5=.int .i64 (aE s:Nat)/\t.val 6=.int .i64 (i:Nat)/\i<=aE s/\l<u.n/\J i u/\(i=0∨u.low<=l)) (fun i=>aE s-i) 0
  ⟨_,_,rfl,by simp +decide only [↓ aB,aD,aC],by simp +decide only [↓ aB,aD,aC],by simp +decide only [↓ aB,aD],by simp +decide only [↓ aB,aD];rfl,Nat.zero_le _,hl,hJs _ _ _ (Sim.low σ σ.n) hJ0,.inl rfl⟩ ?_
 rintro i _ ⟨t,⟨n,low,o⟩,rfl,h0,h1,h5,h6,hi,hln,hJ,hlow⟩
 by_cases hlt:i<aE s
 ·have hle:=nN hlt
  have d1:(i:Int)<(aE s:Nat):=by omega
  have e1:IntKind.i64.wrap ((i:Int)*32)=((i*32:Nat):Int):=by rw [IntWalk.i64_in _ (by omega)];simp
  have e2:IntKind.i64.wrap (((i+1:Nat):Int)*32)=(((i+1)*32:Nat):Int):=by rw [IntWalk.i64_in _ (by omega)];simp
  have d5:=bH (i:=i) (by omega)
  have f1:(0:Int)<=((i*32:Nat):Int):=by omega
  have f2:((i*32:Nat):Int)<=(((i+1)*32:Nat):Int):=by omega
  have f3:(((i+1)*32:Nat):Int)<=(s.length:Nat):=by omega
  have f4:aG s (((i*32:Nat):Int)).toNat ((((i+1)*32:Nat):Int).toNat-(((i*32:Nat):Int)).toNat)=aM s i:=by
   rw [Int.toNat_natCast,Int.toNat_natCast,aM];congr 1;omega
  have hp:=dO hlt
  have dn:n<n+1:=Nat.lt_succ_self n
  simp +contextual +decide only [↓ fP,↓ aB,dC,aD,aC,aS,rU,gW,rX,gX,jY,tf,Nat.reduceAdd,Nat.zero_add,jQ,h0,h1,h5,h6,d1,e1,e2,d5,f1,f2,f3,f4,hp,dn,fA]
  have hcall:=hr i [.int .i64 (i:Nat),.agg ((aM s i).map encB)] (by simp [mM,hlt]) ((Sto.mk n low o).push (bE 0 ((aM s i).map encB))) (Nat.lt_succ_of_lt hln) (hJs _ _ _ (Sim.push _ _) hJ)
  refine hcall.mono fun res hk=>?_
  have hk':rK l J D X i ⟨n+1,low,o.set n (bE 0 ((aM s i).map encB))⟩ res:=hk
  clear hk hcall
  cases res with
  | pan v so=>
    rw [QS]
    have k:(so.getD ⟨n+1,low,o.set n (bE 0 ((aM s i).map encB))⟩).low<=l/\X v (so.getD ⟨n+1,low,o.set n (bE 0 ((aM s i).map encB))⟩):=hk'
    generalize so.getD ⟨n+1,low,o.set n (bE 0 ((aM s i).map encB))⟩=u at *
    simp +contextual +decide only [↓ fP,↓ aB,dC,aD,aC,jY]
    exact QT rfl (xE _ _ _ (X v) (hXs v) k.2 (.inl (Nat.lt_of_le_of_lt k.1 hl)))
  | ret v so=>
    rw [aH]
    have k:(v=.bool true/\(so.getD ⟨n+1,low,o.set n (bE 0 ((aM s i).map encB))⟩).low<=l/\l<(so.getD ⟨n+1,low,o.set n (bE 0 ((aM s i).map encB))⟩).n/\J (i+1) (so.getD ⟨n+1,low,o.set n (bE 0 ((aM s i).map encB))⟩))∨(v=.bool false/\(so.getD ⟨n+1,low,o.set n (bE 0 ((aM s i).map encB))⟩).low<=l/\D (so.getD ⟨n+1,low,o.set n (bE 0 ((aM s i).map encB))⟩)):=by
     cases v with
     | bool b=>cases b with
       | true=>exact .inl ⟨rfl,hk'⟩
       | false=>exact .inr ⟨rfl,hk'⟩
     | _=>exact hk'.elim
    generalize so.getD ⟨n+1,low,o.set n (bE 0 ((aM s i).map encB))⟩=u at *
    rcases k with ⟨rfl,k1,k0,k2⟩ | ⟨rfl,k1,k2⟩
    ·simp +contextual +decide only [↓ fP,↓ aB,dC,aD,aC,jY,Nat.reduceAdd,h6,d5]
     exact ⟨i+1,by show _-_<_-_;omega,_,_,rfl,by simp +decide only [↓ aB,h0],by simp +decide only [↓ aB,h1],by simp +decide only [↓ aB,h5],by simp +decide only [↓ aB],hlt,k0,k2,.inr k1⟩
    ·simp +contextual +decide only [↓ fP,↓ aB,dC,aD,aC,jY,Nat.reduceAdd,h6,d5]
     exact jO rfl (vs:=[]) rfl (.inr (xE _ _ _ D hDs k2 (.inl (Nat.lt_of_le_of_lt k1 hl))))
 ·have d1:¬ (i:Int)<(aE s:Nat):=by omega
  simp +contextual +decide only [↓ fP,↓ aB,dC,aD,aC,jY,Nat.reduceAdd,h5,h6,d1]
  have hic:i=aE s:=by omega
  refine jO rfl (vs:=[]) rfl (.inl (xE _ _ _ (J (aE s)) (hJs _) (hic ▸ hJ) ?_))
  rcases hlow with h | h
  ·refine .inr ?_
   rw [<-hic,h];exact hJ0
  ·exact .inl (Nat.lt_of_le_of_lt h hl)
end
end Go.Proofs.Ytajngkkihadgfaa
