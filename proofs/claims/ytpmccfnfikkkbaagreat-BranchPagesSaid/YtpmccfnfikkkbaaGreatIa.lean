/-
  Worlds, in plain words; how they lie in the machine.
-/
import Derived.Test.YtpmccfnfikkkbaaGreatHd
set_option linter.unusedVariables false
set_option linter.unusedSimpArgs false
namespace Go.Proofs.YtpmccfnfikkkbaaGreat.I
open Go.Abs Go Go.Abs.TryzF
noncomputable section
set_option maxRecDepth 10000
structure Wd where
 objs:List Ob
 tasks:List Int
 outs:List kM
 ins:List Int
 used:Int
 deriving DecidableEq
def JB (n:Int) (v:kM):Bool:=!(decide (v.1=5)&&decide (n<=v.2))
def kQ (n:Int) (l:List kM):Bool:=l.all (JB n)
def NF (n:Int) (f:Fr):Bool:=kQ n f.env&&kQ n f.vals
def jQ (n:Int) (o:Ob):Bool:=o.frs.all (NF n)&&kQ n o.vals
def BI (n:Int) (o:Ob):Bool:=mL o&&jQ n o
def jR (v:kM):Bool:=dB v.1&&dB v.2
def wW (w:Wd):Bool:=decide (w.objs.length<=120)&&decide (w.tasks.length<=120)&&decide (w.outs.length<=100)&&decide (w.ins.length<=50)&&kN w.used 0 1073741824 &&
 w.objs.all (BI w.objs.length)&&w.tasks.all (fun t=>kN t 0 ((w.objs.length:Int)-1))&&w.outs.all jR&&w.ins.all dB
def RH:AV->Option Int
 | .int .i64 n=>some n
 | _=>none
def decInts:AV->Option (List Int):=decS RH
def decObs:AV->Option (List Ob):=decS decOb
def decWd:AV->Option Wd
 | .agg [os,ts,us,is,.int .i64 n]=>match decObs os,decInts ts,decVals us,decInts is with
   | some a,some b,some c,some d=>some ⟨a,b,c,d,n⟩
   | _,_,_,_=>none
 | _=>none
theorem NG {a:AV} {n:Int} (h:RH a=some n):a=sS n:=by
 unfold RH at h;split at h
 ·cases h;rfl
 ·cases h
theorem fM {a:AV} {l:List Int} (h:decInts a=some l):Sl a (l.map sS):=by
 unfold decInts decS at h;split at h
 ·simp at h;subst h;exact ⟨.inl ⟨rfl,rfl⟩,Nat.zero_le _⟩
 ·rename_i xs c
  split at h
  ·rename_i hl
   have:=DK (g:=sS) (fun a x=>NG) xs l h;subst this;exact ⟨.inr ⟨c,rfl⟩,hl⟩
  ·cases h
 ·cases h
theorem DB {a:AV} {w:Wd} (h:decWd a=some w):∃ os ts us is,a=.agg [os,ts,us,is,.int .i64 w.used]/\decObs os=some w.objs/\decInts ts=some w.tasks/\decVals us=some w.outs/\decInts is=some w.ins:=by
 unfold decWd at h;split at h
 ·rename_i os ts us is n
  split at h
  ·rename_i a b c d h1 h2 h3 h4
   cases h;exact ⟨os,ts,us,is,rfl,h1,h2,h3,h4⟩
  ·cases h
 ·cases h
theorem NH (a:AV) (o:Ob) (h:decOb a=some o):∃ cs,a=.agg cs/\cs.length=4/\cs.all AV.isCell=true:=by
 obtain ⟨vs,fs,rfl,h1,h2⟩:=gI h;refine ⟨_,rfl,rfl,?_⟩;simp only [List.all_cons,List.all_nil,bG h1,jC h2];rfl
theorem RI {α:Type} [Inhabited α] {f:AV->Option α} {k:Nat} (hf:∀ a x,f a=some x->∃ cs,a=.agg cs/\cs.length=k/\cs.all AV.isCell=true) {a:AV} {l:List α} (h:decS f a=some l):
 ∃ (xs:List AV) (c:Nat->List AV),Sl a xs/\xs.length=l.length/\(∀ i,i<l.length->(∀ {q:IntKind} {d:Option AV},dS (some k) xs (.int q (i:Nat)) d=some (.pf (.agg (c i))))/\(c i).length=k/\(c i).all AV.isCell=true/\f (.agg (c i))=some (l.getD i default)):=by
 obtain ⟨xs,h1,h2,h3⟩:=uH h;refine ⟨xs,fun i=>(xs.getD i .top).cells,h1,h2,fun i hi=>?_⟩
 have hx:i<xs.length:=by omega
 obtain ⟨cs,q1,q2,q3⟩:=hf _ _ (h3 i hx hi)
 have hxi:xs.getD i .top=.agg cs:=by rw [cE hx];exact q1
 refine ⟨fun {q d}=>?_,by simp only [hxi];exact q2,by simp only [hxi];exact q3,?_⟩
 ·simp only [hxi]
  refine uK (by omega) (by omega) ?_ q2;rw [Int.toNat_natCast,List.getElem?_eq_getElem hx,q1];rfl
 ·simp only [hxi,AV.cells]
  rw [cE hi,<-h3 i hx hi,q1]
theorem uD {a:AV} {l:List Ob} (h:decObs a=some l):∃ (xs:List AV) (c:Nat->List AV),Sl a xs/\xs.length=l.length/\(∀ i,i<l.length->(∀ {q:IntKind} {d:Option AV},dS (some 4) xs (.int q (i:Nat)) d=some (.pf (.agg (c i))))/\(c i).length=4/\(c i).all AV.isCell=true/\decOb (.agg (c i))=some (l.getD i default)):=RI NH h
theorem YP {a:AV} {l:List Ob} (h:decObs a=some l):UnderE 0 a:=by
 obtain ⟨xs,h1,h2,h3⟩:=uH h
 refine lZ h1 fun x hx=>?_
 obtain ⟨i,hi,rfl⟩:=List.mem_iff_getElem.1 hx;exact pR (h3 i hi (by omega))
theorem DC {a:AV} {l:List Int} (h:decInts a=some l):UnderE 0 a:=lZ (fM h) (aEi l)
theorem sJ {a:AV} {w:Wd} (h:decWd a=some w):UnderE 0 a:=by
 obtain ⟨os,ts,us,is,rfl,h1,h2,h3,h4⟩:=DB h
 refine dM fun x hx=>?_
 simp at hx
 rcases hx with rfl | rfl | rfl | rfl | rfl
 ·exact YP h1
 ·exact DC h2
 ·exact iV h3
 ·exact DC h4
 ·exact ⟨1,rfl⟩
theorem nH {a:AV} {w:Wd} (h:decWd a=some w):∃ os ts us is,a=.agg [os,ts,us,is,.int .i64 w.used]/\decObs os=some w.objs/\decInts ts=some w.tasks/\decVals us=some w.outs/\decInts is=some w.ins/\os.isCell=true/\ts.isCell=true/\us.isCell=true/\is.isCell=true:=by
 obtain ⟨os,ts,us,is,rfl,h1,h2,h3,h4⟩:=DB h;exact ⟨os,ts,us,is,rfl,h1,h2,h3,h4,jC h1,jC h2,jC h3,jC h4⟩
end
end Go.Proofs.YtpmccfnfikkkbaaGreat.I
/-
 The program of images: every,for objects,outputs and numbers.
-/
namespace Go.Proofs.YtpmccfnfikkkbaaGreat.I
open Go.Abs Go Go.Abs.TryzF
noncomputable section
set_option maxRecDepth 10000
theorem RJ {O:Orc} (ho:∀ a σ,O 268 a σ=none) (g:FuncId) (cap:List AV) (a:AV) (xs:List AV) (ha:Sl a xs) (m:Nat) (hlen:xs.length=m) (c:Nat->List AV) (hix:∀ i,i<m->∀ {q:IntKind} {d:Option AV},dS (some 4) xs (.int q (i:Nat)) d=some (.pf (.agg (c i)))) (hcl:∀ i,i<m->(c i).length=4) (p:Nat->Bool) (s:Sto)
 (h:∀ i,i<m->∀ s',Sim s s'->RetS Tryz.prog O (.func (.func g) [] cap) [.agg (c i)] s' (.bool (p i))):RetS Tryz.prog O (.func (.func 268) [] []) [a,.func (.func g) [] cap] s (.int .i64 (match (List.range m).findIdx? p with | some i=>((i:Nat):Int) | none=>-1)):=by
 have hll:=ha.2;refine RetS.run (first:=[]) (args:=[a,.func (.func g) [] cap]) (cap:=[]) aG (ho _ _) (by kernel_rfl) Tryz.func268 Tryz.ntmps268 Tryz.results268 rfl rfl ?_;obtain ⟨n0,low0,o0⟩:=s;show Wk _ _ _ _ ⟨19,none,268,Tr.leaf.lay 0 [a,.func (.func g) [] cap],[],⟨n0,n0,o0⟩,.no⟩ _;simp +contextual +decide (maxSteps:=1000000) only [↓ wP,wQ,tf,ne_eq,ha.len,hlen]
 refine aN (fun i e=>∃ t n low o,e=⟨19,none,268,t,[],⟨n,low,o⟩,.no⟩/\t.val 0=a/\t.val 1=.func (.func g) [] cap/\t.val 7=.int .i64 (m:Nat)/\t.val 8=.int .i64 (i:Nat)/\i<=m/\(∀ j,j<i->p j=false)/\n0<=n/\∀ id,id<n0->o.get id=o0.get id) (fun i=>m-i) 0
  ⟨_,n0,n0,o0,rfl,by simp +decide only [↓ aB,bN,aZ],by simp +decide only [↓ aB,bN,aZ],by simp +decide only [↓ aB],by simp +decide only [↓ aB];rfl,Nat.zero_le _,fun j hj=>by omega,Nat.le_refl _,fun _ _=>rfl⟩ ?_
 rintro i _ ⟨t,n,low,o,rfl,t0,t1,t7,t8,hi,hpre,hn,hoth⟩;by_cases hlt:i<m
 ·have d1:((i:Int)<(m:Nat))=True:=eq_true (by omega)
  have d5:=aY (i:=i) (by omega)
  have x1:=fun {q d}=>hix i hlt (q:=q) (d:=d)
  have x2:=hcl i hlt;have x3:=h i hlt;generalize c i=cs at *;simp +contextual +decide (maxSteps:=1000000) only [↓ wP,wQ,tf,ne_eq,ha.idx,t0,t1,t7,t8,d1,x1,x2];refine cR.1 ((x3 ⟨n,low,o⟩ (aX (low:=low0) hn hoth)).wcall fun so hso=>?_);rw [aJ];obtain ⟨n',low',o',e1,h1,h2⟩:=cA hso;rw [e1]
  cases hp:p i with
  | true=>
    have hf:(List.range m).findIdx? p=some i:=by
     rw [List.findIdx?_eq_some_iff_getElem];refine ⟨by simpa using hlt,by simpa using hp,fun j hj=>?_⟩;have:=hpre j hj
     simpa using this
    simp +contextual +decide (maxSteps:=1000000) only [↓ wP,wQ,ne_eq,aT,hf];exact aX (by omega) (fun id hid=>by rw [h2 id (by omega)];exact hoth id hid)
  | false=>
    simp +contextual +decide (maxSteps:=1000000) only [↓ wP,wQ,ne_eq,t8,d5]
    exact ⟨i+1,by show _-_<_-_;omega,_,n',low',o',rfl,by simp +decide only [↓ aB,t0],by simp +decide only [↓ aB,t1],by simp +decide only [↓ aB,t7],by simp +decide only [↓ aB],hlt,fun j hj=>by
     rcases Nat.lt_succ_iff_lt_or_eq.1 hj with hj | rfl
     ·exact hpre j hj
     ·exact hp,by omega,fun id hid=>by rw [h2 id (by omega)];exact hoth id hid⟩
 ·have:i=m:=by omega
  subst this;have d1:(((i:Nat):Int)<(i:Nat))=False:=eq_false (by omega)
  have hf:(List.range i).findIdx? p=none:=by
   rw [List.findIdx?_eq_none_iff];intro x hx;exact hpre x (List.mem_range.1 hx)
  simp +contextual +decide (maxSteps:=1000000) only [↓ wP,wQ,t7,t8,d1,aT,hf];exact aX hn hoth
theorem GM {O:Orc} (ho:∀ a σ,O 268 a σ=none) (ho':∀ a σ,O 206 a σ=none) (g:FuncId) (cap:List AV) (a:AV) (xs:List AV) (ha:Sl a xs) (m:Nat) (hlen:xs.length=m) (c:Nat->List AV) (hix:∀ i,i<m->∀ {q:IntKind} {d:Option AV},dS (some 4) xs (.int q (i:Nat)) d=some (.pf (.agg (c i)))) (hcl:∀ i,i<m->(c i).length=4) (p:Nat->Bool) (s:Sto)
 (h:∀ i,i<m->∀ s',Sim s s'->RetS Tryz.prog O (.func (.func g) [] cap) [.agg (c i)] s' (.bool (p i))):RetS Tryz.prog O (.func (.func 206) [] []) [a,.func (.func g) [] cap] s (.bool ((List.range m).any p)):=by
 have hx:=fun s' hs=>RJ ho g cap a xs ha m hlen c hix hcl p s' fun x hx s'' hs'=>h x hx s'' (Sim.trans (b:=s') hs hs')
 refine RetS.run (first:=[]) (args:=[a,.func (.func g) [] cap]) (cap:=[]) aG (ho' _ _) (by kernel_rfl) Tryz.func206 Tryz.ntmps206 Tryz.results206 rfl rfl ?_;obtain ⟨n0,low0,o0⟩:=s;show Wk _ _ _ _ ⟨9,none,206,Tr.leaf.lay 0 [a,.func (.func g) [] cap],[],⟨n0,n0,o0⟩,.no⟩ _;simp +contextual +decide (maxSteps:=1000000) only [↓ wP,wQ,ne_eq,ho,aQ];refine bL (ho _ _) ((hx ⟨n0,n0,o0⟩ (aX (Nat.le_refl _) fun _ _=>rfl)).wcall fun so hso=>?_);rw [aJ];obtain ⟨n',low',o',e1,h1,h2⟩:=cA hso;rw [e1]
 cases hf:(List.range m).findIdx? p with
 | none=>
   have hany:(List.range m).any p=false:=by
    rw [List.any_eq_false];intro x hx;have:=List.findIdx?_eq_none_iff.1 hf x hx;simp [this]
   simp +contextual +decide (maxSteps:=1000000) only [↓ wP,wQ,aT,hany];exact aX h1 h2
 | some i=>
   have hany:(List.range m).any p=true:=by
    obtain ⟨h3,h4,_⟩:=List.findIdx?_eq_some_iff_getElem.1 hf;rw [List.any_eq_true];exact ⟨_,List.getElem_mem h3,h4⟩
   simp +contextual +decide (maxSteps:=1000000) only [↓ wP,wQ,aT,hany,show ((0:Int)<=(i:Nat))=True from eq_true (by omega)];exact aX h1 h2
theorem NI {O:Orc} (ho1:∀ a σ,O 207 a σ=none) (g:FuncId) (cap:List AV) (cs:List AV) (hcs:cs.length=4) (hcc:cs.all AV.isCell=true) (b:Bool) (c:Nat) (s:Sto) (hc:s.get c=some (aW 0 [.func (.func g) [] cap]))
 (h:∀ s',Sim s s'->RetS Tryz.prog O (.func (.func g) [] cap) [.agg cs] s' (.bool b)):RetS Tryz.prog O (.func (.func 207) [] [.ptr c 0 0]) [.agg cs] s (.bool !b):=by
 refine RetS.run (first:=[]) (args:=[.agg cs]) (cap:=[.ptr c 0 0]) aG (ho1 _ _) (by kernel_rfl) Tryz.func207 Tryz.ntmps207 Tryz.results207 rfl rfl ?_;obtain ⟨n0,low0,o0⟩:=s;have hcn:c<n0:=Sto.get_lt hc;rw [Sto.get_mk hcn]at hc;have f0:=bK hcn
 have hz:0+4<=cs.length:=by omega
 show Wk _ _ _ _ ⟨8,none,207,Tr.leaf.lay 0 [.agg cs,.ptr c 0 0],[],⟨n0,n0,o0⟩,.no⟩ _;simp +contextual +decide (maxSteps:=1000000) only [↓ wP,wQ,tf,Nat.reduceAdd,ne_eq,hc,hcc,hcs,f0,dC,show aM cs 0 4=cs from by unfold aM;rw [List.drop_zero,List.take_of_length_le (by omega)]];refine cR.1 ((h _ (aX (by omega) fun id hid=>by rw [Tr.get_set_ne _ _ (by omega)])).wcall fun so hso=>?_);rw [aJ];obtain ⟨n',low',o',e1,h1,h2⟩:=cA hso;rw [e1];simp +contextual +decide (maxSteps:=1000000) only [↓ wP,wQ,aT];exact aX (by omega) (fun id hid=>by rw [h2 id (by omega),Tr.get_set_ne _ _ (by omega)])
theorem RK {O:Orc} (ho:∀ a σ,O 268 a σ=none) (ho':∀ a σ,O 206 a σ=none) (ho1:∀ a σ,O 207 a σ=none) (ho2:∀ a σ,O 119 a σ=none)
 (g:FuncId) (cap:List AV) (a:AV) (xs:List AV) (ha:Sl a xs) (m:Nat) (hlen:xs.length=m) (c:Nat->List AV) (hix:∀ i,i<m->∀ {q:IntKind} {d:Option AV},dS (some 4) xs (.int q (i:Nat)) d=some (.pf (.agg (c i)))) (hcl:∀ i,i<m->(c i).length=4) (hcc:∀ i,i<m->(c i).all AV.isCell=true) (p:Nat->Bool) (most:Nat) (s:Sto)
 (h:∀ i,i<m->∀ s',Sim s s'->RetS Tryz.prog O (.func (.func g) [] cap) [.agg (c i)] s' (.bool (p i))):RetS Tryz.prog O (.func (.func 119) [] []) [a,.int .i64 (most:Nat),.func (.func g) [] cap] s (.bool (decide (m<=most)&&(List.range m).all p)):=by
 refine RetS.run (first:=[]) (args:=[a,.int .i64 (most:Nat),.func (.func g) [] cap]) (cap:=[]) aG (ho2 _ _) (by kernel_rfl) Tryz.func119 Tryz.ntmps119 Tryz.results119 rfl rfl ?_;obtain ⟨n0,low0,o0⟩:=s;show Wk _ _ _ _ ⟨17,none,119,Tr.leaf.lay 0 [a,.int .i64 (most:Nat),.func (.func g) [] cap],[],⟨n0,n0,o0⟩,.no⟩ _;have d1:(((m:Nat):Int)<=(most:Nat))=(m<=most):=propext (by omega);by_cases hl:m<=most
 ·simp +contextual +decide (maxSteps:=1000000) only [↓ wP,wQ,tf,ne_eq,ha.len,hlen,d1,hl,ho',aQ]
  refine bL (ho' _ _) ((GM ho ho' 207 [.ptr n0 0 0] a xs ha m hlen c hix hcl (fun i=>!p i) ⟨n0+1,n0,o0.set n0 (aW 0 [.func (.func g) [] cap])⟩ fun i hi s' hs=>?_).wcall fun so hso=>?_)
  ·refine NI ho1 g cap (c i) (hcl i hi) (hcc i hi) (p i) n0 s' (hs.get ?_) fun s'' hs'=>h i hi s'' ?_
   ·rw [Sto.get_mk (by omega),Tr.get_set_same]
   ·exact (aX (by omega) fun id hid=>by rw [Tr.get_set_ne _ _ (by omega)]:Sim ⟨n0,low0,o0⟩ ⟨n0+1,n0,o0.set n0 (aW 0 [.func (.func g) [] cap])⟩).trans (hs.trans hs')
  ·rw [aJ]
   obtain ⟨n',low',o',e1,h1,h2⟩:=cA hso;rw [e1]
   have hany:((List.range m).any fun x=>!p x) = !(List.range m).all p:=by rw [<-List.not_all_eq_any_not]
   rw [hany];simp +contextual +decide (maxSteps:=1000000) only [↓ wP,wQ,ne_eq,aT,Bool.not_not];exact aX (by omega) (fun id hid=>by rw [h2 id (by omega),Tr.get_set_ne _ _ (by omega)])
 ·simp +contextual +decide (maxSteps:=1000000) only [↓ wP,wQ,tf,ne_eq,ha.len,hlen,d1,hl,aT]
  exact ⟨by simp,aX (by omega) (fun id hid=>by rw [Tr.get_set_ne _ _ (by omega)])⟩
theorem RL {O:Orc} (ho:∀ a σ,O 270 a σ=none) (g:FuncId) (cap:List AV) (a:AV) (xs:List AV) (ha:Sl a xs) (m:Nat) (hlen:xs.length=m) (c:Nat->List AV) (hix:∀ i,i<m->∀ {q:IntKind} {d:Option AV},dS (some 2) xs (.int q (i:Nat)) d=some (.pf (.agg (c i)))) (hcl:∀ i,i<m->(c i).length=2) (p:Nat->Bool) (s:Sto)
 (h:∀ i,i<m->∀ s',Sim s s'->RetS Tryz.prog O (.func (.func g) [] cap) [.agg (c i)] s' (.bool (p i))):RetS Tryz.prog O (.func (.func 270) [] []) [a,.func (.func g) [] cap] s (.int .i64 (match (List.range m).findIdx? p with | some i=>((i:Nat):Int) | none=>-1)):=by
 have hll:=ha.2;refine RetS.run (first:=[]) (args:=[a,.func (.func g) [] cap]) (cap:=[]) aG (ho _ _) (by kernel_rfl) Tryz.func270 Tryz.ntmps270 Tryz.results270 rfl rfl ?_;obtain ⟨n0,low0,o0⟩:=s;show Wk _ _ _ _ ⟨19,none,270,Tr.leaf.lay 0 [a,.func (.func g) [] cap],[],⟨n0,n0,o0⟩,.no⟩ _;simp +contextual +decide (maxSteps:=1000000) only [↓ wP,wQ,tf,ne_eq,ha.len,hlen]
 refine aN (fun i e=>∃ t n low o,e=⟨19,none,270,t,[],⟨n,low,o⟩,.no⟩/\t.val 0=a/\t.val 1=.func (.func g) [] cap/\t.val 7=.int .i64 (m:Nat)/\t.val 8=.int .i64 (i:Nat)/\i<=m/\(∀ j,j<i->p j=false)/\n0<=n/\∀ id,id<n0->o.get id=o0.get id) (fun i=>m-i) 0
  ⟨_,n0,n0,o0,rfl,by simp +decide only [↓ aB,bN,aZ],by simp +decide only [↓ aB,bN,aZ],by simp +decide only [↓ aB],by simp +decide only [↓ aB];rfl,Nat.zero_le _,fun j hj=>by omega,Nat.le_refl _,fun _ _=>rfl⟩ ?_
 rintro i _ ⟨t,n,low,o,rfl,t0,t1,t7,t8,hi,hpre,hn,hoth⟩;by_cases hlt:i<m
 ·have d1:((i:Int)<(m:Nat))=True:=eq_true (by omega)
  have d5:=aY (i:=i) (by omega)
  have x1:=fun {q d}=>hix i hlt (q:=q) (d:=d)
  have x2:=hcl i hlt;have x3:=h i hlt;generalize c i=cs at *;simp +contextual +decide (maxSteps:=1000000) only [↓ wP,wQ,tf,ne_eq,ha.idx,t0,t1,t7,t8,d1,x1,x2];refine cR.1 ((x3 ⟨n,low,o⟩ (aX (low:=low0) hn hoth)).wcall fun so hso=>?_);rw [aJ];obtain ⟨n',low',o',e1,h1,h2⟩:=cA hso;rw [e1]
  cases hp:p i with
  | true=>
    have hf:(List.range m).findIdx? p=some i:=by
     rw [List.findIdx?_eq_some_iff_getElem];refine ⟨by simpa using hlt,by simpa using hp,fun j hj=>?_⟩;have:=hpre j hj
     simpa using this
    simp +contextual +decide (maxSteps:=1000000) only [↓ wP,wQ,ne_eq,aT,hf];exact aX (by omega) (fun id hid=>by rw [h2 id (by omega)];exact hoth id hid)
  | false=>
    simp +contextual +decide (maxSteps:=1000000) only [↓ wP,wQ,ne_eq,t8,d5]
    exact ⟨i+1,by show _-_<_-_;omega,_,n',low',o',rfl,by simp +decide only [↓ aB,t0],by simp +decide only [↓ aB,t1],by simp +decide only [↓ aB,t7],by simp +decide only [↓ aB],hlt,fun j hj=>by
     rcases Nat.lt_succ_iff_lt_or_eq.1 hj with hj | rfl
     ·exact hpre j hj
     ·exact hp,by omega,fun id hid=>by rw [h2 id (by omega)];exact hoth id hid⟩
 ·have:i=m:=by omega
  subst this;have d1:(((i:Nat):Int)<(i:Nat))=False:=eq_false (by omega)
  have hf:(List.range i).findIdx? p=none:=by
   rw [List.findIdx?_eq_none_iff];intro x hx;exact hpre x (List.mem_range.1 hx)
  simp +contextual +decide (maxSteps:=1000000) only [↓ wP,wQ,t7,t8,d1,aT,hf];exact aX hn hoth
theorem GN {O:Orc} (ho:∀ a σ,O 270 a σ=none) (ho':∀ a σ,O 210 a σ=none) (g:FuncId) (cap:List AV) (a:AV) (xs:List AV) (ha:Sl a xs) (m:Nat) (hlen:xs.length=m) (c:Nat->List AV) (hix:∀ i,i<m->∀ {q:IntKind} {d:Option AV},dS (some 2) xs (.int q (i:Nat)) d=some (.pf (.agg (c i)))) (hcl:∀ i,i<m->(c i).length=2) (p:Nat->Bool) (s:Sto)
 (h:∀ i,i<m->∀ s',Sim s s'->RetS Tryz.prog O (.func (.func g) [] cap) [.agg (c i)] s' (.bool (p i))):RetS Tryz.prog O (.func (.func 210) [] []) [a,.func (.func g) [] cap] s (.bool ((List.range m).any p)):=by
 have hx:=fun s' hs=>RL ho g cap a xs ha m hlen c hix hcl p s' fun x hx s'' hs'=>h x hx s'' (Sim.trans (b:=s') hs hs')
 refine RetS.run (first:=[]) (args:=[a,.func (.func g) [] cap]) (cap:=[]) aG (ho' _ _) (by kernel_rfl) Tryz.func210 Tryz.ntmps210 Tryz.results210 rfl rfl ?_;obtain ⟨n0,low0,o0⟩:=s;show Wk _ _ _ _ ⟨9,none,210,Tr.leaf.lay 0 [a,.func (.func g) [] cap],[],⟨n0,n0,o0⟩,.no⟩ _;simp +contextual +decide (maxSteps:=1000000) only [↓ wP,wQ,ne_eq,ho,aQ];refine bL (ho _ _) ((hx ⟨n0,n0,o0⟩ (aX (Nat.le_refl _) fun _ _=>rfl)).wcall fun so hso=>?_);rw [aJ];obtain ⟨n',low',o',e1,h1,h2⟩:=cA hso;rw [e1]
 cases hf:(List.range m).findIdx? p with
 | none=>
   have hany:(List.range m).any p=false:=by
    rw [List.any_eq_false];intro x hx;have:=List.findIdx?_eq_none_iff.1 hf x hx;simp [this]
   simp +contextual +decide (maxSteps:=1000000) only [↓ wP,wQ,aT,hany];exact aX h1 h2
 | some i=>
   have hany:(List.range m).any p=true:=by
    obtain ⟨h3,h4,_⟩:=List.findIdx?_eq_some_iff_getElem.1 hf;rw [List.any_eq_true];exact ⟨_,List.getElem_mem h3,h4⟩
   simp +contextual +decide (maxSteps:=1000000) only [↓ wP,wQ,aT,hany,show ((0:Int)<=(i:Nat))=True from eq_true (by omega)];exact aX h1 h2
theorem NJ {O:Orc} (ho1:∀ a σ,O 211 a σ=none) (g:FuncId) (cap:List AV) (cs:List AV) (hcs:cs.length=2) (hcc:cs.all AV.isCell=true) (b:Bool) (c:Nat) (s:Sto) (hc:s.get c=some (aW 0 [.func (.func g) [] cap]))
 (h:∀ s',Sim s s'->RetS Tryz.prog O (.func (.func g) [] cap) [.agg cs] s' (.bool b)):RetS Tryz.prog O (.func (.func 211) [] [.ptr c 0 0]) [.agg cs] s (.bool !b):=by
 refine RetS.run (first:=[]) (args:=[.agg cs]) (cap:=[.ptr c 0 0]) aG (ho1 _ _) (by kernel_rfl) Tryz.func211 Tryz.ntmps211 Tryz.results211 rfl rfl ?_;obtain ⟨n0,low0,o0⟩:=s;have hcn:c<n0:=Sto.get_lt hc;rw [Sto.get_mk hcn]at hc;have f0:=bK hcn
 have hz:0+2<=cs.length:=by omega
 show Wk _ _ _ _ ⟨8,none,211,Tr.leaf.lay 0 [.agg cs,.ptr c 0 0],[],⟨n0,n0,o0⟩,.no⟩ _;simp +contextual +decide (maxSteps:=1000000) only [↓ wP,wQ,tf,Nat.reduceAdd,ne_eq,hc,hcc,hcs,f0,dC,show aM cs 0 2=cs from by unfold aM;rw [List.drop_zero,List.take_of_length_le (by omega)]];refine cR.1 ((h _ (aX (by omega) fun id hid=>by rw [Tr.get_set_ne _ _ (by omega)])).wcall fun so hso=>?_);rw [aJ];obtain ⟨n',low',o',e1,h1,h2⟩:=cA hso;rw [e1];simp +contextual +decide (maxSteps:=1000000) only [↓ wP,wQ,aT];exact aX (by omega) (fun id hid=>by rw [h2 id (by omega),Tr.get_set_ne _ _ (by omega)])
theorem RN {O:Orc} (ho:∀ a σ,O 270 a σ=none) (ho':∀ a σ,O 210 a σ=none) (ho1:∀ a σ,O 211 a σ=none) (ho2:∀ a σ,O 121 a σ=none)
 (g:FuncId) (cap:List AV) (a:AV) (xs:List AV) (ha:Sl a xs) (m:Nat) (hlen:xs.length=m) (c:Nat->List AV) (hix:∀ i,i<m->∀ {q:IntKind} {d:Option AV},dS (some 2) xs (.int q (i:Nat)) d=some (.pf (.agg (c i)))) (hcl:∀ i,i<m->(c i).length=2) (hcc:∀ i,i<m->(c i).all AV.isCell=true) (p:Nat->Bool) (most:Nat) (s:Sto)
 (h:∀ i,i<m->∀ s',Sim s s'->RetS Tryz.prog O (.func (.func g) [] cap) [.agg (c i)] s' (.bool (p i))):RetS Tryz.prog O (.func (.func 121) [] []) [a,.int .i64 (most:Nat),.func (.func g) [] cap] s (.bool (decide (m<=most)&&(List.range m).all p)):=by
 refine RetS.run (first:=[]) (args:=[a,.int .i64 (most:Nat),.func (.func g) [] cap]) (cap:=[]) aG (ho2 _ _) (by kernel_rfl) Tryz.func121 Tryz.ntmps121 Tryz.results121 rfl rfl ?_;obtain ⟨n0,low0,o0⟩:=s;show Wk _ _ _ _ ⟨17,none,121,Tr.leaf.lay 0 [a,.int .i64 (most:Nat),.func (.func g) [] cap],[],⟨n0,n0,o0⟩,.no⟩ _;have d1:(((m:Nat):Int)<=(most:Nat))=(m<=most):=propext (by omega);by_cases hl:m<=most
 ·simp +contextual +decide (maxSteps:=1000000) only [↓ wP,wQ,tf,ne_eq,ha.len,hlen,d1,hl,ho',aQ]
  refine bL (ho' _ _) ((GN ho ho' 211 [.ptr n0 0 0] a xs ha m hlen c hix hcl (fun i=>!p i) ⟨n0+1,n0,o0.set n0 (aW 0 [.func (.func g) [] cap])⟩ fun i hi s' hs=>?_).wcall fun so hso=>?_)
  ·refine NJ ho1 g cap (c i) (hcl i hi) (hcc i hi) (p i) n0 s' (hs.get ?_) fun s'' hs'=>h i hi s'' ?_
   ·rw [Sto.get_mk (by omega),Tr.get_set_same]
   ·exact (aX (by omega) fun id hid=>by rw [Tr.get_set_ne _ _ (by omega)]:Sim ⟨n0,low0,o0⟩ ⟨n0+1,n0,o0.set n0 (aW 0 [.func (.func g) [] cap])⟩).trans (hs.trans hs')
  ·rw [aJ]
   obtain ⟨n',low',o',e1,h1,h2⟩:=cA hso;rw [e1]
   have hany:((List.range m).any fun x=>!p x) = !(List.range m).all p:=by rw [<-List.not_all_eq_any_not]
   rw [hany];simp +contextual +decide (maxSteps:=1000000) only [↓ wP,wQ,ne_eq,aT,Bool.not_not];exact aX (by omega) (fun id hid=>by rw [h2 id (by omega),Tr.get_set_ne _ _ (by omega)])
 ·simp +contextual +decide (maxSteps:=1000000) only [↓ wP,wQ,tf,ne_eq,ha.len,hlen,d1,hl,aT]
  exact ⟨by simp,aX (by omega) (fun id hid=>by rw [Tr.get_set_ne _ _ (by omega)])⟩
theorem RO {O:Orc} (ho:∀ a σ,O 269 a σ=none) (g:FuncId) (cap:List AV) (a:AV) (xs:List AV) (ha:Sl a xs) (m:Nat) (hlen:xs.length=m) (c:Nat->AV) (hix:∀ i,i<m->∀ {q:IntKind} {d:Option AV},dS (some 1) xs (.int q (i:Nat)) d=some (.pf (c i))) (hcl:∀ i,i<m->(c i).isCell=true) (p:Nat->Bool) (s:Sto)
 (h:∀ i,i<m->∀ s',Sim s s'->RetS Tryz.prog O (.func (.func g) [] cap) [c i] s' (.bool (p i))):RetS Tryz.prog O (.func (.func 269) [] []) [a,.func (.func g) [] cap] s (.int .i64 (match (List.range m).findIdx? p with | some i=>((i:Nat):Int) | none=>-1)):=by
 have hll:=ha.2;refine RetS.run (first:=[]) (args:=[a,.func (.func g) [] cap]) (cap:=[]) aG (ho _ _) (by kernel_rfl) Tryz.func269 Tryz.ntmps269 Tryz.results269 rfl rfl ?_;obtain ⟨n0,low0,o0⟩:=s;show Wk _ _ _ _ ⟨19,none,269,Tr.leaf.lay 0 [a,.func (.func g) [] cap],[],⟨n0,n0,o0⟩,.no⟩ _;simp +contextual +decide (maxSteps:=1000000) only [↓ wP,wQ,tf,ne_eq,ha.len,hlen]
 refine aN (fun i e=>∃ t n low o,e=⟨19,none,269,t,[],⟨n,low,o⟩,.no⟩/\t.val 0=a/\t.val 1=.func (.func g) [] cap/\t.val 7=.int .i64 (m:Nat)/\t.val 8=.int .i64 (i:Nat)/\i<=m/\(∀ j,j<i->p j=false)/\n0<=n/\∀ id,id<n0->o.get id=o0.get id) (fun i=>m-i) 0
  ⟨_,n0,n0,o0,rfl,by simp +decide only [↓ aB,bN,aZ],by simp +decide only [↓ aB,bN,aZ],by simp +decide only [↓ aB],by simp +decide only [↓ aB];rfl,Nat.zero_le _,fun j hj=>by omega,Nat.le_refl _,fun _ _=>rfl⟩ ?_
 rintro i _ ⟨t,n,low,o,rfl,t0,t1,t7,t8,hi,hpre,hn,hoth⟩;by_cases hlt:i<m
 ·have d1:((i:Int)<(m:Nat))=True:=eq_true (by omega)
  have d5:=aY (i:=i) (by omega)
  have x1:=fun {q d}=>hix i hlt (q:=q) (d:=d)
  have x2:=hcl i hlt;have x3:=h i hlt;generalize c i=cs at *;simp +contextual +decide (maxSteps:=1000000) only [↓ wP,wQ,tf,ne_eq,ha.idx,t0,t1,t7,t8,d1,x1,x2];refine cR.1 ((x3 ⟨n,low,o⟩ (aX (low:=low0) hn hoth)).wcall fun so hso=>?_);rw [aJ];obtain ⟨n',low',o',e1,h1,h2⟩:=cA hso;rw [e1]
  cases hp:p i with
  | true=>
    have hf:(List.range m).findIdx? p=some i:=by
     rw [List.findIdx?_eq_some_iff_getElem];refine ⟨by simpa using hlt,by simpa using hp,fun j hj=>?_⟩;have:=hpre j hj
     simpa using this
    simp +contextual +decide (maxSteps:=1000000) only [↓ wP,wQ,ne_eq,aT,hf];exact aX (by omega) (fun id hid=>by rw [h2 id (by omega)];exact hoth id hid)
  | false=>
    simp +contextual +decide (maxSteps:=1000000) only [↓ wP,wQ,ne_eq,t8,d5]
    exact ⟨i+1,by show _-_<_-_;omega,_,n',low',o',rfl,by simp +decide only [↓ aB,t0],by simp +decide only [↓ aB,t1],by simp +decide only [↓ aB,t7],by simp +decide only [↓ aB],hlt,fun j hj=>by
     rcases Nat.lt_succ_iff_lt_or_eq.1 hj with hj | rfl
     ·exact hpre j hj
     ·exact hp,by omega,fun id hid=>by rw [h2 id (by omega)];exact hoth id hid⟩
 ·have:i=m:=by omega
  subst this;have d1:(((i:Nat):Int)<(i:Nat))=False:=eq_false (by omega)
  have hf:(List.range i).findIdx? p=none:=by
   rw [List.findIdx?_eq_none_iff];intro x hx;exact hpre x (List.mem_range.1 hx)
  simp +contextual +decide (maxSteps:=1000000) only [↓ wP,wQ,t7,t8,d1,aT,hf];exact aX hn hoth
theorem GO {O:Orc} (ho:∀ a σ,O 269 a σ=none) (ho':∀ a σ,O 208 a σ=none) (g:FuncId) (cap:List AV) (a:AV) (xs:List AV) (ha:Sl a xs) (m:Nat) (hlen:xs.length=m) (c:Nat->AV) (hix:∀ i,i<m->∀ {q:IntKind} {d:Option AV},dS (some 1) xs (.int q (i:Nat)) d=some (.pf (c i))) (hcl:∀ i,i<m->(c i).isCell=true) (p:Nat->Bool) (s:Sto)
 (h:∀ i,i<m->∀ s',Sim s s'->RetS Tryz.prog O (.func (.func g) [] cap) [c i] s' (.bool (p i))):RetS Tryz.prog O (.func (.func 208) [] []) [a,.func (.func g) [] cap] s (.bool ((List.range m).any p)):=by
 have hx:=fun s' hs=>RO ho g cap a xs ha m hlen c hix hcl p s' fun x hx s'' hs'=>h x hx s'' (Sim.trans (b:=s') hs hs')
 refine RetS.run (first:=[]) (args:=[a,.func (.func g) [] cap]) (cap:=[]) aG (ho' _ _) (by kernel_rfl) Tryz.func208 Tryz.ntmps208 Tryz.results208 rfl rfl ?_;obtain ⟨n0,low0,o0⟩:=s;show Wk _ _ _ _ ⟨9,none,208,Tr.leaf.lay 0 [a,.func (.func g) [] cap],[],⟨n0,n0,o0⟩,.no⟩ _;simp +contextual +decide (maxSteps:=1000000) only [↓ wP,wQ,ne_eq,ho,aQ];refine bL (ho _ _) ((hx ⟨n0,n0,o0⟩ (aX (Nat.le_refl _) fun _ _=>rfl)).wcall fun so hso=>?_);rw [aJ];obtain ⟨n',low',o',e1,h1,h2⟩:=cA hso;rw [e1]
 cases hf:(List.range m).findIdx? p with
 | none=>
   have hany:(List.range m).any p=false:=by
    rw [List.any_eq_false];intro x hx;have:=List.findIdx?_eq_none_iff.1 hf x hx;simp [this]
   simp +contextual +decide (maxSteps:=1000000) only [↓ wP,wQ,aT,hany];exact aX h1 h2
 | some i=>
   have hany:(List.range m).any p=true:=by
    obtain ⟨h3,h4,_⟩:=List.findIdx?_eq_some_iff_getElem.1 hf;rw [List.any_eq_true];exact ⟨_,List.getElem_mem h3,h4⟩
   simp +contextual +decide (maxSteps:=1000000) only [↓ wP,wQ,aT,hany,show ((0:Int)<=(i:Nat))=True from eq_true (by omega)];exact aX h1 h2
theorem NK {O:Orc} (ho1:∀ a σ,O 209 a σ=none) (g:FuncId) (cap:List AV) (cs:AV) (b:Bool) (c:Nat) (s:Sto) (hc:s.get c=some (aW 0 [.func (.func g) [] cap]))
 (h:∀ s',Sim s s'->RetS Tryz.prog O (.func (.func g) [] cap) [cs] s' (.bool b)):RetS Tryz.prog O (.func (.func 209) [] [.ptr c 0 0]) [cs] s (.bool !b):=by
 refine RetS.run (first:=[]) (args:=[cs]) (cap:=[.ptr c 0 0]) aG (ho1 _ _) (by kernel_rfl) Tryz.func209 Tryz.ntmps209 Tryz.results209 rfl rfl ?_;obtain ⟨n0,low0,o0⟩:=s;have hcn:c<n0:=Sto.get_lt hc;rw [Sto.get_mk hcn]at hc;have f0:=bK hcn;show Wk _ _ _ _ ⟨8,none,209,Tr.leaf.lay 0 [cs,.ptr c 0 0],[],⟨n0,n0,o0⟩,.no⟩ _;simp +contextual +decide (maxSteps:=1000000) only [↓ wP,wQ,tf,ne_eq,hc,f0,dC];refine cR.1 ((h _ (aX (by omega) fun id hid=>rfl)).wcall fun so hso=>?_);rw [aJ];obtain ⟨n',low',o',e1,h1,h2⟩:=cA hso;rw [e1];simp +contextual +decide (maxSteps:=1000000) only [↓ wP,wQ,aT];exact aX (by omega) h2
theorem DD {O:Orc} (ho:∀ a σ,O 269 a σ=none) (ho':∀ a σ,O 208 a σ=none) (ho1:∀ a σ,O 209 a σ=none) (ho2:∀ a σ,O 120 a σ=none)
 (g:FuncId) (cap:List AV) (a:AV) (xs:List AV) (ha:Sl a xs) (m:Nat) (hlen:xs.length=m) (c:Nat->AV) (hix:∀ i,i<m->∀ {q:IntKind} {d:Option AV},dS (some 1) xs (.int q (i:Nat)) d=some (.pf (c i))) (hcl:∀ i,i<m->(c i).isCell=true) (p:Nat->Bool) (most:Nat) (s:Sto)
 (h:∀ i,i<m->∀ s',Sim s s'->RetS Tryz.prog O (.func (.func g) [] cap) [c i] s' (.bool (p i))):RetS Tryz.prog O (.func (.func 120) [] []) [a,.int .i64 (most:Nat),.func (.func g) [] cap] s (.bool (decide (m<=most)&&(List.range m).all p)):=by
 refine RetS.run (first:=[]) (args:=[a,.int .i64 (most:Nat),.func (.func g) [] cap]) (cap:=[]) aG (ho2 _ _) (by kernel_rfl) Tryz.func120 Tryz.ntmps120 Tryz.results120 rfl rfl ?_;obtain ⟨n0,low0,o0⟩:=s;show Wk _ _ _ _ ⟨17,none,120,Tr.leaf.lay 0 [a,.int .i64 (most:Nat),.func (.func g) [] cap],[],⟨n0,n0,o0⟩,.no⟩ _;have d1:(((m:Nat):Int)<=(most:Nat))=(m<=most):=propext (by omega);by_cases hl:m<=most
 ·simp +contextual +decide (maxSteps:=1000000) only [↓ wP,wQ,tf,ne_eq,ha.len,hlen,d1,hl,ho',aQ]
  refine bL (ho' _ _) ((GO ho ho' 209 [.ptr n0 0 0] a xs ha m hlen c hix hcl (fun i=>!p i) ⟨n0+1,n0,o0.set n0 (aW 0 [.func (.func g) [] cap])⟩ fun i hi s' hs=>?_).wcall fun so hso=>?_)
  ·refine NK ho1 g cap (c i) (p i) n0 s' (hs.get ?_) fun s'' hs'=>h i hi s'' ?_
   ·rw [Sto.get_mk (by omega),Tr.get_set_same]
   ·exact (aX (by omega) fun id hid=>by rw [Tr.get_set_ne _ _ (by omega)]:Sim ⟨n0,low0,o0⟩ ⟨n0+1,n0,o0.set n0 (aW 0 [.func (.func g) [] cap])⟩).trans (hs.trans hs')
  ·rw [aJ]
   obtain ⟨n',low',o',e1,h1,h2⟩:=cA hso;rw [e1]
   have hany:((List.range m).any fun x=>!p x) = !(List.range m).all p:=by rw [<-List.not_all_eq_any_not]
   rw [hany];simp +contextual +decide (maxSteps:=1000000) only [↓ wP,wQ,ne_eq,aT,Bool.not_not];exact aX (by omega) (fun id hid=>by rw [h2 id (by omega),Tr.get_set_ne _ _ (by omega)])
 ·simp +contextual +decide (maxSteps:=1000000) only [↓ wP,wQ,tf,ne_eq,ha.len,hlen,d1,hl,aT]
  exact ⟨by simp,aX (by omega) (fun id hid=>by rw [Tr.get_set_ne _ _ (by omega)])⟩
end
end Go.Proofs.YtpmccfnfikkkbaaGreat.I
/-
 The reference of images: worlds that can be stored.
-/
namespace Go.Proofs.YtpmccfnfikkkbaaGreat.I
open Go.Abs Go Go.Abs.TryzF
noncomputable section
set_option maxRecDepth 10000
def DE:List AV->Option AV
 | [a,.int .i64 n]=>(decVals a).map fun l=>.bool (kQ n l)
 | _=>none
theorem zF {a:AV} {l:List kM} {n:Int} (h:decVals a=some l):DE [a,.int .i64 n]=some (.bool (kQ n l)):=by simp [DE,h]
theorem rbelow_ok:Abs.Ok Tryz.prog 221 DE:=by
 intro args v hg;unfold DE at hg;split at hg
 rotate_left
 ·cases hg
 rename_i a n;obtain ⟨l,hl,rfl⟩:=Option.map_eq_some_iff.1 hg;have ha:=dA hl;have hlen:=ha.2;simp only [List.length_map]at hlen;refine aF (L:=[]) aE aG (by kernel_rfl) Tryz.func221 Tryz.ntmps221 Tryz.results221 rfl rfl (aA (iV hl).und (aA aO aD)) aI ?_;simp +contextual +decide (maxSteps:=1000000) only [↓ wP,wQ];refine aN (fun i e=>∃ t,e=⟨27,none,221,t,[],⟨0,0,.leaf⟩,.no⟩/\t.val 0=a/\t.val 1=.int .i64 n/\t.val 5=.int .i64 (i:Nat)/\i<=l.length/\(l.take i).all (JB n)=true) (fun i=>l.length-i) 0 ⟨_,rfl,by simp +decide only [↓ aB,bN,aZ],by simp +decide only [↓ aB,bN,aZ],by simp +decide only [↓ aB];rfl,Nat.zero_le _,rfl⟩ ?_;rintro i _ ⟨t,rfl,t0,t1,t5,hi,hok⟩;by_cases hlt:i<l.length
 ·have d1:(i:Int)<(l.length:Nat):=by omega
  have d3:(0:Int)<=i:=by omega
  have d4:((i:Int)).toNat=i:=by omega
  have d5:=aY (i:=i) (by omega);have htk:=fB (d:=default) hlt
  have hm:l.getD i default∈l:=by rw [cE hlt];exact List.getElem_mem _
  have hx:∀ x:kM,eH x=.agg [.int .i64 x.1,.int .i64 x.2]:=fun _=>rfl
  have hrf:JB n (l.getD i default) = !(decide ((l.getD i default).1=5)&&decide (n<=(l.getD i default).2)):=rfl;by_cases h5:(l.getD i default).1=5
  ·by_cases hn:n<=(l.getD i default).2
   ·simp +contextual +decide (maxSteps:=1000000) only [↓ wP,wQ,tf,ne_eq,ha.len,ha.idx,t0,t1,t5,d1,d3,d4,eF jT,hx,h5,hn]
    have:l.all (JB n)=false:=by rw [List.all_eq_false];exact ⟨_,hm,by rw [hrf,decide_eq_true h5,decide_eq_true hn];simp⟩
    rw [kQ,this]
   ·simp +contextual +decide (maxSteps:=1000000) only [↓ wP,wQ,tf,ne_eq,ha.len,ha.idx,t0,t1,t5,d1,d3,d4,d5,eF jT,hx,h5,hn]
    refine ⟨i+1,by show _-_<_-_;omega,_,rfl,by simp +decide only [↓ aB,t0],by simp +decide only [↓ aB,t1],by simp +decide only [↓ aB],hlt,?_⟩;rw [htk,List.all_append,hok];simp only [List.all_cons,List.all_nil,hrf,hn];simp
  ·simp +contextual +decide (maxSteps:=1000000) only [↓ wP,wQ,tf,ne_eq,ha.len,ha.idx,t0,t5,d1,d3,d4,d5,eF jT,hx,h5]
   refine ⟨i+1,by show _-_<_-_;omega,_,rfl,by simp +decide only [↓ aB,t0],by simp +decide only [↓ aB,t1],by simp +decide only [↓ aB],hlt,?_⟩;rw [htk,List.all_append,hok];simp only [List.all_cons,List.all_nil,hrf,h5];simp
 ·have:i=l.length:=by omega
  subst this;rw [List.take_length]at hok
  have d1:¬ ((l.length:Nat):Int)<(l.length:Nat):=by omega
  simp +contextual +decide (maxSteps:=1000000) only [↓ wP,wQ,tf,ne_eq,ha.len,t0,t5,d1];rw [kQ,hok]
def wX:List AV->Option AV
 | [a,.int .i64 n]=>(decOb a).map fun o=>.bool (jQ n o)
 | _=>none
theorem RP {a:AV} {o:Ob} {n:Int} (h:decOb a=some o):wX [a,.int .i64 n]=some (.bool (jQ n o)):=by simp [wX,h]
set_option maxHeartbeats 1000000 in
theorem rinside_ok:Abs.Ok Tryz.prog 142 wX:=by
 intro args v hg;unfold wX at hg;split at hg
 rotate_left
 ·cases hg
 rename_i a n;obtain ⟨o,ho,rfl⟩:=Option.map_eq_some_iff.1 hg;have hund:=(pR ho).und;obtain ⟨vs,fs,rfl,hvs,hfs⟩:=gI ho;obtain ⟨xs,hsl,hlen,hat⟩:=RQ hfs;have cvs:=bG hvs;have cfs:=hsl.cell;have hll:=hsl.2;refine aF (L:=[ent 221 DE]) (elist_cons rbelow_ok.ent aE) aG (by kernel_rfl) Tryz.func142 Tryz.ntmps142 Tryz.results142 rfl rfl (aA hund (aA aO aD)) aI ?_;have hvv:=zF (n:=n) hvs;simp +contextual +decide (maxSteps:=1000000) only [↓ wP,wQ,Nat.reduceAdd,cvs,cfs]
 refine aN (fun i e=>∃ t n' low ob,e=⟨37,none,142,t,[],⟨n',low,ob⟩,.no⟩/\t.val 1=.int .i64 n/\t.val 2=.ptr 0 0 0/\t.val 5=.int .i64 (i:Nat)/\ob.get 0=some (aW 0 [.int .i64 o.form,.int .i64 o.n,vs,fs])/\0<n'/\i<=o.frs.length/\(o.frs.take i).all (NF n)=true) (fun i=>o.frs.length-i) 0
  ⟨_,1,0,_,rfl,by simp +decide only [↓ aB,bN,aZ],by simp +decide only [↓ aB],by simp +decide only [↓ aB];rfl,by simp +decide only [↓ aB],by omega,Nat.zero_le _,rfl⟩ ?_
 rintro i _ ⟨t,n',low,ob,rfl,t1,t2,t5,hg0,hn,hi,hall⟩;have f0:=bK (i:=0) (n:=n') hn;have d1:((i:Int)<(xs.length:Nat))=(i<o.frs.length):=propext (by omega);by_cases hlt:i<o.frs.length
 ·have d5:=aY (i:=i) (by omega)
  have htk:=fB (d:=default) hlt
  have hm:o.frs.getD i default∈o.frs:=by rw [cE hlt];exact List.getElem_mem _
  obtain ⟨e,v,hix,he,hv⟩:=hat i hlt;have ce:=bG he;have cv:=bG hv;have e1:=zF (n:=n) he;have e2:=zF (n:=n) hv;have hfr:NF n (o.frs.getD i default)=(kQ n (o.frs.getD i default).env&&kQ n (o.frs.getD i default).vals):=rfl;generalize hxd:o.frs.getD i default=f at *
  have hbad:NF n f=false->jQ n o=false:=fun h=>by
   have:o.frs.all (NF n)=false:=by rw [List.all_eq_false];exact ⟨_,hm,by rw [h];simp⟩
   rw [jQ,this];rfl
  cases k1:kQ n f.env with
  | false=>
    simp +contextual +decide (maxSteps:=1000000) only [↓ wP,wQ,tf,Nat.reduceAdd,ne_eq,t1,t2,t5,hg0,f0,hsl.len,hsl.idx,hix,d1,hlt,ce,e1,k1];rw [hbad (by rw [hfr,k1];rfl)]
  | true=>
  cases k2:kQ n f.vals with
  | false=>
    simp +contextual +decide (maxSteps:=1000000) only [↓ wP,wQ,tf,Nat.reduceAdd,ne_eq,t1,t2,t5,hg0,f0,hsl.len,hsl.idx,hix,d1,hlt,ce,cv,e1,e2,k1,k2];rw [hbad (by rw [hfr,k1,k2];rfl)]
  | true=>
    simp +contextual +decide (maxSteps:=1000000) only [↓ wP,wQ,tf,Nat.reduceAdd,ne_eq,t1,t2,t5,hg0,f0,hsl.len,hsl.idx,hix,d1,hlt,d5,ce,cv,e1,e2,k1,k2];refine ⟨i+1,by show _-_<_-_;omega,_,_,_,_,rfl,by simp +decide only [↓ aB,t1],by simp +decide only [↓ aB,t2],by simp +decide only [↓ aB],hg0,hn,hlt,?_⟩;rw [htk,List.all_append,hall];simp only [List.all_cons,List.all_nil,hfr,k1,k2];rfl
 ·have:i=o.frs.length:=by omega
  subst this;rw [List.take_length]at hall;simp +contextual +decide (maxSteps:=1000000) only [↓ wP,wQ,tf,Nat.reduceAdd,ne_eq,t1,t2,t5,hg0,f0,hsl.len,d1,hvv,show (o.frs.length<o.frs.length)=False from eq_false (by omega)];rw [jQ,hall];rfl
def uE:List AV->Option AV
 | [a]=>(decWd a).map fun w=>.bool (wW w)
 | _=>none
theorem DF {a:AV} {w:Wd} (h:decWd a=some w):uE [a]=some (.bool (wW w)):=by simp [uE,h]
theorem wY {w:Wd}:wW w=true↔w.objs.length<=120/\w.tasks.length<=120/\w.outs.length<=100/\w.ins.length<=50/\kN w.used 0 1073741824=true/\
 w.objs.all (BI w.objs.length)=true/\w.tasks.all (fun t=>kN t 0 ((w.objs.length:Int)-1))=true/\w.outs.all jR=true/\w.ins.all dB=true:=by
 simp only [wW,Bool.and_eq_true,decide_eq_true_eq,and_assoc]
theorem iM {w:Wd} (h:¬ (w.objs.length<=120/\w.tasks.length<=120/\w.outs.length<=100/\w.ins.length<=50/\kN w.used 0 1073741824=true/\
 w.objs.all (BI w.objs.length)=true/\w.tasks.all (fun t=>kN t 0 ((w.objs.length:Int)-1))=true/\w.outs.all jR=true/\w.ins.all dB=true)):wW w=false:=by
 cases hk:wW w with
 | false=>rfl
 | true=>exact absurd (wY.1 hk) h
theorem uF {α:Type} {l:List α} {p:α->Bool} {x:α} (hm:x∈l) (h:p x=false):¬ l.all p=true:=by
 rw [List.all_eq_true];intro h';rw [h' x hm]at h;cases h
theorem gB {α:Type} {l:List α} {i:Nat} {d:α} (h:i<l.length):l.getD i d∈l:=by rw [cE h];exact List.getElem_mem _
theorem wZ {α:Type} {l:List α} {i:Nat} {d:α} {p:α->Bool} (h:i<l.length) (h1:(l.take i).all p=true) (h2:p (l.getD i d)=true):(l.take (i+1)).all p=true:=by
 rw [fB (d:=d) h,List.all_append,h1,Bool.true_and,List.all_cons,h2,List.all_nil];rfl
abbrev LFo:List lX:=[ent 140 RZ,ent 141 mX,ent 142 wX]
set_option maxHeartbeats 4000000 in
theorem rFormed_ok:Abs.Ok Tryz.prog 66 uE:=by
 intro args v hg
 match args,hg with
 | [a],hg=>
   obtain ⟨w,hw,rfl⟩:=Option.map_eq_some_iff.1 hg;have hund:=(sJ hw).und;obtain ⟨os,ts,us,is,rfl,h1,h2,h3,h4,c1,c2,c3,c4⟩:=nH hw;obtain ⟨xs,c,hsl,hlen,hat⟩:=uD h1;have s2:=fM h2;have s3:=dA h3;have s4:=fM h4;have hll:=hsl.2;have hl2:=s2.2;have hl3:=s3.2;have hl4:=s4.2;rw [List.length_map]at hl2 hl3 hl4;refine aF (L:=LFo) (elist_cons rIn_ok.ent (elist_cons rstorable_ok.ent (elist_cons rinside_ok.ent aE))) aG (by kernel_rfl) Tryz.func66 Tryz.ntmps66 Tryz.results66 rfl rfl (aA hund aD) aI ?_;have q1:(120<((w.objs.length:Nat):Int))=(120<w.objs.length):=propext (by omega);have q2:(120<((w.tasks.length:Nat):Int))=(120<w.tasks.length):=propext (by omega);have q3:(100<((w.outs.length:Nat):Int))=(100<w.outs.length):=propext (by omega);have q4:(50<((w.ins.length:Nat):Int))=(50<w.ins.length):=propext (by omega)
   have hno:¬ (w.objs.length<=120/\w.tasks.length<=120/\w.outs.length<=100/\w.ins.length<=50/\kN w.used 0 1073741824=true)->wW w=false:=fun h=>iM fun h'=>h ⟨h'.1,h'.2.1,h'.2.2.1,h'.2.2.2.1,h'.2.2.2.2.1⟩
   by_cases k1:120<w.objs.length
   ·simp +contextual +decide (maxSteps:=1000000) only [↓ wP,wQ,tf,Nat.reduceAdd,ne_eq,c1,c2,c3,c4,hsl.len,hlen,q1,k1]
    rw [hno fun h=>by omega]
   by_cases k2:120<w.tasks.length
   ·simp +contextual +decide (maxSteps:=1000000) only [↓ wP,wQ,tf,Nat.reduceAdd,ne_eq,c1,c2,c3,c4,hsl.len,hlen,s2.len,q1,k1,q2,k2]
    rw [hno fun h=>by omega]
   by_cases k3:100<w.outs.length
   ·simp +contextual +decide (maxSteps:=1000000) only [↓ wP,wQ,tf,Nat.reduceAdd,ne_eq,c1,c2,c3,c4,hsl.len,hlen,s2.len,s3.len,q1,k1,q2,k2,q3,k3]
    rw [hno fun h=>by omega]
   by_cases k4:50<w.ins.length
   ·simp +contextual +decide (maxSteps:=1000000) only [↓ wP,wQ,tf,Nat.reduceAdd,ne_eq,c1,c2,c3,c4,hsl.len,hlen,s2.len,s3.len,s4.len,q1,k1,q2,k2,q3,k3,q4,k4]
    rw [hno fun h=>by omega]
   cases k5:kN w.used 0 1073741824 with
   | false=>
     simp +contextual +decide (maxSteps:=1000000) only [↓ wP,wQ,tf,Nat.reduceAdd,ne_eq,c1,c2,c3,c4,hsl.len,hlen,s2.len,s3.len,s4.len,q1,k1,q2,k2,q3,k3,q4,k4,cC,k5];rw [hno fun h=>by rw [k5]at h;cases h.2.2.2.2]
   | true=>
   simp +contextual +decide (maxSteps:=1000000) only [↓ wP,wQ,tf,Nat.reduceAdd,ne_eq,c1,c2,c3,c4,hsl.len,hlen,s2.len,s3.len,s4.len,q1,k1,q2,k2,q3,k3,q4,k4,cC,k5]
   refine aN (fun i e=>∃ t n low ob,e=⟨114,none,66,t,[],⟨n,low,ob⟩,.no⟩/\t.val 1=.ptr 0 0 0/\t.val 3=.int .i64 (w.objs.length:Nat)/\t.val 4=.int .i64 (i:Nat)/\ob.get 0=some (aW 0 [os,ts,us,is,.int .i64 w.used])/\0<n/\i<=w.objs.length/\(w.objs.take i).all (BI w.objs.length)=true) (fun i=>w.objs.length-i) 0
    ⟨_,1,0,_,rfl,by simp +decide only [↓ aB],by simp +decide only [↓ aB],by simp +decide only [↓ aB];rfl,by simp +decide only [↓ aB],by omega,Nat.zero_le _,rfl⟩ ?_
   rintro i _ ⟨t,n,low,ob,rfl,t1,t3,t4,hg0,hn,hi,hall⟩;have f0:=bK (i:=0) (n:=n) hn;have d1:((i:Int)<(w.objs.length:Nat))=(i<w.objs.length):=propext (by omega);by_cases hlt:i<w.objs.length
   ·have d5:=aY (i:=i) (by omega)
    have hm:=gB (d:=default) hlt;obtain ⟨hix,hcl,hcc,hdec⟩:=hat i hlt
    have x1:=fun {q d}=>hix (q:=q) (d:=d)
    have e1:=xA hdec;have e2:=RP (n:=w.objs.length) hdec;have hob:BI w.objs.length (w.objs.getD i default)=(mL (w.objs.getD i default)&&jQ w.objs.length (w.objs.getD i default)):=rfl
    have hsn:=fun h=>wZ (d:=default) (p:=BI w.objs.length) hlt hall h
    generalize c i=cs at *;generalize hxd:w.objs.getD i default=x at *
    cases g1:mL x with
    | false=>
      simp +contextual +decide (maxSteps:=1000000) only [↓ wP,wQ,tf,Nat.reduceAdd,ne_eq,t1,t3,t4,hg0,f0,hsl.idx,x1,hcl,d1,hlt,e1,g1];rw [iM fun h=>uF hm (by rw [hob,g1];rfl) h.2.2.2.2.2.1]
    | true=>
    cases g2:jQ w.objs.length x with
    | false=>
      simp +contextual +decide (maxSteps:=1000000) only [↓ wP,wQ,tf,Nat.reduceAdd,ne_eq,t1,t3,t4,hg0,f0,hsl.idx,x1,hcl,d1,hlt,e1,g1,e2,g2];rw [iM fun h=>uF hm (by rw [hob,g1,g2];rfl) h.2.2.2.2.2.1]
    | true=>
      simp +contextual +decide (maxSteps:=1000000) only [↓ wP,wQ,tf,Nat.reduceAdd,ne_eq,t1,t3,t4,hg0,f0,hsl.idx,x1,hcl,d1,hlt,e1,g1,e2,g2,d5];exact ⟨i+1,by show _-_<_-_;omega,_,_,_,_,rfl,by simp +decide only [↓ aB,t1],by simp +decide only [↓ aB,t3],by simp +decide only [↓ aB],hg0,hn,hlt,hsn (by rw [hob,g1,g2];rfl)⟩
   have hfull:i=w.objs.length:=by omega
   rw [hfull,List.take_length]at hall;simp +contextual +decide (maxSteps:=1000000) only [↓ wP,wQ,ne_eq,t3,t4,d1,hlt];clear hfull hlt d1 t4 hi
   refine aN (fun i e=>∃ t n low ob,e=⟨114,none,66,t,[],⟨n,low,ob⟩,.no⟩/\t.val 1=.ptr 0 0 0/\t.val 3=.int .i64 (w.objs.length:Nat)/\t.val 5=.int .i64 (i:Nat)/\ob.get 0=some (aW 0 [os,ts,us,is,.int .i64 w.used])/\0<n/\i<=w.tasks.length/\(w.tasks.take i).all (fun t=>kN t 0 ((w.objs.length:Int)-1))=true) (fun i=>w.tasks.length-i) 0
    ⟨_,_,_,_,rfl,by simp +decide only [↓ aB,t1],by simp +decide only [↓ aB,t3],by simp +decide only [↓ aB];rfl,hg0,hn,Nat.zero_le _,rfl⟩ ?_
   clear t1 t3 hg0 f0 hn t n low ob i;rintro i _ ⟨t,n,low,ob,rfl,t1,t3,t5,hg0,hn,hi,hall2⟩;have f0:=bK (i:=0) (n:=n) hn;have d1:((i:Int)<(w.tasks.length:Nat))=(i<w.tasks.length):=propext (by omega)
   have d3:(0:Int)<=i:=by omega
   by_cases hlt:i<w.tasks.length
   ·have d5:=aY (i:=i) (by omega)
    have hm:=gB (d:=default) hlt;have d6:IntKind.i64.wrap (((w.objs.length:Nat):Int)-1)=((w.objs.length:Nat):Int)-1:=IntWalk.i64_in _ (by omega)
    have hsn:=fun h=>wZ (d:=default) (p:=fun t=>kN t 0 ((w.objs.length:Int)-1)) hlt hall2 h
    have x1:∀ {q:IntKind} {d:Option AV},dS (some 1) (w.tasks.map sS) (.int q (i:Nat)) d=some (.pf (.int .i64 (w.tasks.getD i default))):=fun {q d}=>eF sT d3 (by omega)
    generalize hxd:w.tasks.getD i default=x at *
    cases g1:kN x 0 ((w.objs.length:Int)-1) with
    | false=>
      simp +contextual +decide (maxSteps:=1000000) only [↓ wP,wQ,tf,Nat.reduceAdd,ne_eq,t1,t3,t5,hg0,f0,s2.len,s2.idx,x1,d1,hlt,d6,cC,g1];rw [iM fun h=>uF hm (p:=fun t=>kN t 0 ((w.objs.length:Int)-1)) g1 h.2.2.2.2.2.2.1]
    | true=>
      simp +contextual +decide (maxSteps:=1000000) only [↓ wP,wQ,tf,Nat.reduceAdd,ne_eq,t1,t3,t5,hg0,f0,s2.len,s2.idx,x1,d1,hlt,d6,cC,g1,d5];exact ⟨i+1,by show _-_<_-_;omega,_,_,_,_,rfl,by simp +decide only [↓ aB,t1],by simp +decide only [↓ aB,t3],by simp +decide only [↓ aB],hg0,hn,hlt,hsn g1⟩
   have hfull:i=w.tasks.length:=by omega
   rw [hfull,List.take_length]at hall2;simp +contextual +decide (maxSteps:=1000000) only [↓ wP,wQ,tf,Nat.reduceAdd,ne_eq,t1,t5,hg0,f0,s2.len,d1,hlt];clear hfull hlt d1 d3 t5 hi
   refine aN (fun i e=>∃ t n low ob,e=⟨114,none,66,t,[],⟨n,low,ob⟩,.no⟩/\t.val 1=.ptr 0 0 0/\t.val 6=.int .i64 (i:Nat)/\ob.get 0=some (aW 0 [os,ts,us,is,.int .i64 w.used])/\0<n/\i<=w.outs.length/\(w.outs.take i).all jR=true) (fun i=>w.outs.length-i) 0
    ⟨_,_,_,_,rfl,by simp +decide only [↓ aB,t1],by simp +decide only [↓ aB];rfl,hg0,hn,Nat.zero_le _,rfl⟩ ?_
   clear t1 t3 hg0 f0 hn t n low ob i;rintro i _ ⟨t,n,low,ob,rfl,t1,t6,hg0,hn,hi,hall3⟩;have f0:=bK (i:=0) (n:=n) hn;have d1:((i:Int)<(w.outs.length:Nat))=(i<w.outs.length):=propext (by omega)
   have d3:(0:Int)<=i:=by omega
   by_cases hlt:i<w.outs.length
   ·have d5:=aY (i:=i) (by omega)
    have hm:=gB (d:=default) hlt
    have hsn:=fun h=>wZ (d:=default) (p:=jR) hlt hall3 h
    have x1:∀ {q:IntKind} {d:Option AV},dS (some 2) (w.outs.map eH) (.int q (i:Nat)) d=some (.pf (.agg [.int .i64 (w.outs.getD i default).1,.int .i64 (w.outs.getD i default).2])):=fun {q d}=>eF jT d3 (by omega)
    generalize hxd:w.outs.getD i default=x at *;have hob:jR x=(kN x.1 (-1073741824) 1073741824&&kN x.2 (-1073741824) 1073741824):=rfl
    cases g1:kN x.1 (-1073741824) 1073741824 with
    | false=>
      simp +contextual +decide (maxSteps:=1000000) only [↓ wP,wQ,tf,Nat.reduceAdd,ne_eq,t1,t6,hg0,f0,s3.len,s3.idx,x1,d1,hlt,cC,g1];rw [iM fun h=>uF hm (p:=jR) (by rw [hob,g1];rfl) h.2.2.2.2.2.2.2.1]
    | true=>
    cases g2:kN x.2 (-1073741824) 1073741824 with
    | false=>
      simp +contextual +decide (maxSteps:=1000000) only [↓ wP,wQ,tf,Nat.reduceAdd,ne_eq,t1,t6,hg0,f0,s3.len,s3.idx,x1,d1,hlt,cC,g1,g2];rw [iM fun h=>uF hm (p:=jR) (by rw [hob,g1,g2];rfl) h.2.2.2.2.2.2.2.1]
    | true=>
      simp +contextual +decide (maxSteps:=1000000) only [↓ wP,wQ,tf,Nat.reduceAdd,ne_eq,t1,t6,hg0,f0,s3.len,s3.idx,x1,d1,hlt,cC,g1,g2,d5];exact ⟨i+1,by show _-_<_-_;omega,_,_,_,_,rfl,by simp +decide only [↓ aB,t1],by simp +decide only [↓ aB],hg0,hn,hlt,hsn (by rw [hob,g1,g2];rfl)⟩
   have hfull:i=w.outs.length:=by omega
   rw [hfull,List.take_length]at hall3;simp +contextual +decide (maxSteps:=1000000) only [↓ wP,wQ,tf,Nat.reduceAdd,ne_eq,t1,t6,hg0,f0,s3.len,d1,hlt];clear hfull hlt d1 d3 t6 hi
   refine aN (fun i e=>∃ t n low ob,e=⟨114,none,66,t,[],⟨n,low,ob⟩,.no⟩/\t.val 1=.ptr 0 0 0/\t.val 7=.int .i64 (i:Nat)/\ob.get 0=some (aW 0 [os,ts,us,is,.int .i64 w.used])/\0<n/\i<=w.ins.length/\(w.ins.take i).all dB=true) (fun i=>w.ins.length-i) 0
    ⟨_,_,_,_,rfl,by simp +decide only [↓ aB,t1],by simp +decide only [↓ aB];rfl,hg0,hn,Nat.zero_le _,rfl⟩ ?_
   clear t1 hg0 f0 hn t n low ob i;rintro i _ ⟨t,n,low,ob,rfl,t1,t7,hg0,hn,hi,hall4⟩;have f0:=bK (i:=0) (n:=n) hn;have d1:((i:Int)<(w.ins.length:Nat))=(i<w.ins.length):=propext (by omega)
   have d3:(0:Int)<=i:=by omega
   by_cases hlt:i<w.ins.length
   ·have d5:=aY (i:=i) (by omega)
    have hm:=gB (d:=default) hlt
    have hsn:=fun h=>wZ (d:=default) (p:=dB) hlt hall4 h
    have x1:∀ {q:IntKind} {d:Option AV},dS (some 1) (w.ins.map sS) (.int q (i:Nat)) d=some (.pf (.int .i64 (w.ins.getD i default))):=fun {q d}=>eF sT d3 (by omega)
    generalize hxd:w.ins.getD i default=x at *;have hob:dB x=kN x (-1073741824) 1073741824:=rfl
    cases g1:kN x (-1073741824) 1073741824 with
    | false=>
      simp +contextual +decide (maxSteps:=1000000) only [↓ wP,wQ,tf,Nat.reduceAdd,ne_eq,t1,t7,hg0,f0,dC,s4.len,s4.idx,x1,d1,hlt,cC,g1];rw [iM fun h=>uF hm (p:=dB) (by rw [hob,g1]) h.2.2.2.2.2.2.2.2]
    | true=>
      simp +contextual +decide (maxSteps:=1000000) only [↓ wP,wQ,tf,Nat.reduceAdd,ne_eq,t1,t7,hg0,f0,dC,s4.len,s4.idx,x1,d1,hlt,cC,g1,d5];exact ⟨i+1,by show _-_<_-_;omega,_,_,_,_,rfl,by simp +decide only [↓ aB,t1],by simp +decide only [↓ aB],hg0,hn,hlt,hsn (by rw [hob,g1])⟩
   have hfull:i=w.ins.length:=by omega
   rw [hfull,List.take_length]at hall4;simp +contextual +decide (maxSteps:=1000000) only [↓ wP,wQ,tf,Nat.reduceAdd,ne_eq,t1,t7,hg0,f0,s4.len,d1,hlt];rw [wY.2 ⟨by omega,by omega,by omega,by omega,k5,hall,hall2,hall3,hall4⟩]
end
end Go.Proofs.YtpmccfnfikkkbaaGreat.I
/-
 The program of images: worlds that can be stored.
-/
namespace Go.Proofs.YtpmccfnfikkkbaaGreat.I
open Go.Abs Go Go.Abs.TryzF
noncomputable section
set_option maxRecDepth 10000
theorem aDh {O:Orc} (ho:∀ a σ,O 204 a σ=none) (n:Int) (c:Nat) (x:kM) (s:Sto) (hc:s.get c=some (aW 0 [.int .i64 n])):RetS Tryz.prog O (.func (.func 204) [] [.ptr c 0 0]) [eH x] s (.bool (JB n x)):=by
 refine RetS.run (first:=[]) (args:=[eH x]) (cap:=[.ptr c 0 0]) aG (ho _ _) (by kernel_rfl) Tryz.func204 Tryz.ntmps204 Tryz.results204 rfl rfl ?_;obtain ⟨n0,low0,o0⟩:=s;have hcn:c<n0:=Sto.get_lt hc;rw [Sto.get_mk hcn]at hc;have f0:=bK hcn;obtain ⟨k,m⟩:=x;show Wk _ _ _ _ ⟨13,none,204,Tr.leaf.lay 0 [.agg [.int .i64 k,.int .i64 m],.ptr c 0 0],[],⟨n0,n0,o0⟩,.no⟩ _;by_cases h5:k=5
 ·by_cases hm:m<n
  ·simp +contextual +decide (maxSteps:=1000000) only [↓ wP,wQ,tf,Nat.reduceAdd,ne_eq,hc,f0,dC,h5,hm,aT]
   refine ⟨?_,aX (by omega) fun id hid=>by rw [Tr.get_set_ne _ _ (by omega)]⟩;simp only [JB,decide_eq_false (show ¬ n<=m by omega)];rfl
  ·simp +contextual +decide (maxSteps:=1000000) only [↓ wP,wQ,tf,Nat.reduceAdd,ne_eq,hc,f0,dC,h5,hm,aT]
   refine ⟨?_,aX (by omega) fun id hid=>by rw [Tr.get_set_ne _ _ (by omega)]⟩;simp only [JB,decide_eq_true (show n<=m by omega)];rfl
 ·simp +contextual +decide (maxSteps:=1000000) only [↓ wP,wQ,tf,Nat.reduceAdd,ne_eq,dC,h5,aT]
  refine ⟨?_,aX (by omega) fun id hid=>by rw [Tr.get_set_ne _ _ (by omega)]⟩;simp only [JB,decide_eq_false h5];rfl
def pB (n:Int) (l:List kM):Bool:=decide (l.length<=30)&&kQ n l
def AJ (n:Int) (f:Fr):Bool:=pB n f.env&&pB n f.vals
def HR (n:Int) (o:Ob):Bool:=pB n o.vals&&(decide (o.frs.length<=40)&&o.frs.all (AJ n))
theorem aDi {n:Int} {o:Ob} (h:mL o=true):HR n o=jQ n o:=by
 obtain ⟨_,_,h3,h4,h5⟩:=xC h
 have e1:pB n o.vals=kQ n o.vals:=by rw [pB,decide_eq_true (kU h3).1];rfl
 have e2:o.frs.all (AJ n)=o.frs.all (NF n):=by
  have:∀ l:List Fr,(∀ f∈l,qS f=true)->l.all (AJ n)=l.all (NF n):=by
   intro l
   induction l with
   | nil=>intro _;rfl
   | cons f l ih=>
     intro hl;obtain ⟨_,_,g1,g2⟩:=xB (hl f (List.mem_cons_self ..));rw [List.all_cons,List.all_cons,ih fun g hg=>hl g (List.mem_cons_of_mem _ hg)]
     congr 1
     rw [AJ,NF,pB,pB,decide_eq_true (kU g1).1,decide_eq_true (kU g2).1];rfl
  exact this _ h5
 rw [HR,jQ,e1,e2,decide_eq_true h4,Bool.true_and,Bool.and_comm]
abbrev ONr (O:Orc):Prop:=(∀ a σ,O 316 a σ=none)/\(∀ a σ,O 264 a σ=none)/\(∀ a σ,O 265 a σ=none)/\(∀ a σ,O 200 a σ=none)/\(∀ a σ,O 204 a σ=none)
theorem zG {O:Orc} (ho:ONr O) (n:Int) (c:Nat) (a:AV) (l:List kM) (h:decVals a=some l) (s:Sto) (hc:s.get c=some (aW 0 [.int .i64 n])):
 RetS Tryz.prog O (.func (.func 200) [] []) [a,.int .i64 30,.func (.func 204) [] [.ptr c 0 0]] s (.bool (pB n l)):=
 everyVals ho.1 ho.2.1 ho.2.2.1 ho.2.2.2.1 204 [.ptr c 0 0] a l (dA h) (JB n) 30 s fun x _ s' hs=>aDh ho.2.2.2.2 n c x s' (hs.get hc)
theorem YQ {O:Orc} (ho:ONr O) (ho':∀ a σ,O 205 a σ=none) (n:Int) (c d:Nat) (cs:List AV) (f:Fr) (hf:decFr (.agg cs)=some f) (s:Sto) (hc:s.get c=some (aW 0 [.int .i64 n])) (hd:s.get d=some (aW 0 [.func (.func 204) [] [.ptr c 0 0]])):
 RetS Tryz.prog O (.func (.func 205) [] [.ptr d 0 0]) [.agg cs] s (.bool (AJ n f)):=by
 obtain ⟨e,v,he0,he,hv⟩:=kS hf;cases he0;have ce:=bG he;have cv:=bG hv;refine RetS.run (first:=[]) (args:=[.agg [.int .i64 f.node,e,v]]) (cap:=[.ptr d 0 0]) aG (ho' _ _) (by kernel_rfl) Tryz.func205 Tryz.ntmps205 Tryz.results205 rfl rfl ?_;have hc0:=hc;have hd0:=hd;obtain ⟨n0,low0,o0⟩:=s;have hcn:c<n0:=Sto.get_lt hc;have hdn:d<n0:=Sto.get_lt hd;rw [Sto.get_mk hcn]at hc;rw [Sto.get_mk hdn]at hd;have f0:=bK hcn;have f1:=bK hdn;show Wk _ _ _ _ ⟨14,none,205,Tr.leaf.lay 0 [.agg [.int .i64 f.node,e,v],.ptr d 0 0],[],⟨n0,n0,o0⟩,.no⟩ _;simp +contextual +decide (maxSteps:=1000000) only [↓ wP,wQ,tf,Nat.reduceAdd,ne_eq,hd,f1,dC,ce,cv,ho.2.2.2.1,aQ];refine bL (ho.2.2.2.1 _ _) ((zG ho n c e f.env he _ (by rw [Sto.get_mk (by omega),Tr.get_set_ne _ _ (by omega)];exact hc)).wcall fun so hso=>?_);rw [aJ];obtain ⟨n1,low1,o1,e1,h1,h2⟩:=cA hso;rw [e1]
 have g0:o1.get n0=some (aW 0 [.int .i64 f.node,e,v]):=by rw [h2 n0 (by omega),Tr.get_set_same]
 have gc:o1.get c=some (aW 0 [.int .i64 n]):=by rw [h2 c (by omega),Tr.get_set_ne _ _ (by omega)];exact hc
 have gd:o1.get d=some (aW 0 [.func (.func 204) [] [.ptr c 0 0]]):=by rw [h2 d (by omega),Tr.get_set_ne _ _ (by omega)];exact hd
 have f2:=bK (show n0<n1 by omega);have f3:=bK (show d<n1 by omega)
 cases k1:pB n f.env with
 | false=>
   simp +contextual +decide (maxSteps:=1000000) only [↓ wP,wQ,ne_eq,aT];refine ⟨by rw [AJ,k1];rfl,aX (by omega) fun id hid=>by rw [h2 id (by omega),Tr.get_set_ne _ _ (by omega)]⟩
 | true=>
   simp +contextual +decide (maxSteps:=1000000) only [↓ wP,wQ,tf,Nat.reduceAdd,ne_eq,g0,gd,f2,f3,ho.2.2.2.1,aQ];refine bL (ho.2.2.2.1 _ _) ((zG ho n c v f.vals hv _ (by rw [Sto.get_mk (by omega)];exact gc)).wcall fun so hso=>?_);rw [aJ];obtain ⟨n2,low2,o2,e2,h3,h4⟩:=cA hso;rw [e2];simp +contextual +decide (maxSteps:=1000000) only [↓ wP,wQ,ne_eq,aT];refine ⟨by rw [AJ,k1];rfl,aX (by omega) fun id hid=>by rw [h4 id (by omega),h2 id (by omega),Tr.get_set_ne _ _ (by omega)]⟩
def nI:List AV->Option AV
 | [a,.int .i64 n]=>(decOb a).map fun o=>.bool (HR n o)
 | _=>none
theorem GP {a:AV} {o:Ob} {n:Int} (h:decOb a=some o):nI [a,.int .i64 n]=some (.bool (HR n o)):=by simp [nI,h]
theorem referring_ok:Abs.Ok Tryz.prog 114 nI:=by
 intro args v hg;unfold nI at hg;split at hg
 rotate_left
 ·cases hg
 rename_i a n;obtain ⟨o,ho,rfl⟩:=Option.map_eq_some_iff.1 hg;have hund:=(pR ho).und;obtain ⟨vs,fs,rfl,hvs,hfs⟩:=gI ho;have c1:=bG hvs;have c2:=jC hfs;refine aF (L:=[]) aE aG (by kernel_rfl) Tryz.func114 Tryz.ntmps114 Tryz.results114 rfl rfl (aA hund (aA aO aD)) aI ?_
 have hON:ONr (bJ []):=⟨fun _ _=>rfl,fun _ _=>rfl,fun _ _=>rfl,fun _ _=>rfl,fun _ _=>rfl⟩
 simp +contextual +decide (maxSteps:=1000000) only [↓ wP,wQ,tf,Nat.reduceAdd,ne_eq,c1,c2,hON.2.2.2.1,aQ];refine bL rfl ((zG hON n 1 vs o.vals hvs _ (by simp +contextual +decide (maxSteps:=1000000) only [↓ wP,wQ,ne_eq])).wcall fun so hso=>?_);rw [aJ];obtain ⟨n1,low1,o1,e1,h1,h2⟩:=cA hso;rw [e1]
 have g0:o1.get 0=some (aW 0 [.int .i64 o.form,.int .i64 o.n,vs,fs]):=by rw [h2 0 (by omega)];simp [Tr.get_set]
 have g1:o1.get 1=some (aW 0 [.int .i64 n]):=by rw [h2 1 (by omega)];simp [Tr.get_set]
 have g2:o1.get 2=some (aW 0 [.func (.func 204) [] [.ptr 1 0 0]]):=by rw [h2 2 (by omega)];simp [Tr.get_set]
 have f0:=bK (show 0<n1 by omega)
 cases k1:pB n o.vals with
 | false=>
   simp +contextual +decide (maxSteps:=1000000) only [↓ wP,wQ,ne_eq];rw [HR,k1];rfl
 | true=>
   obtain ⟨xs,c,q1,q2,q3⟩:=zH hfs;simp +contextual +decide (maxSteps:=1000000) only [↓ wP,wQ,tf,Nat.reduceAdd,ne_eq,g0,f0,show ∀ a σ,bJ [] 202 a σ=none from fun _ _=>rfl,aQ];have:=DI (O:=bJ []) (fun _ _=>rfl) (fun _ _=>rfl) (fun _ _=>rfl) (fun _ _=>rfl) 205 [.ptr 2 0 0] fs xs q1 o.frs.length q2 c (fun i hi {q d}=>(q3 i hi).1) (fun i hi=>(q3 i hi).2.1) (fun i hi=>(q3 i hi).2.2.1) (fun i=>AJ n (o.frs.getD i default)) 40 ⟨n1,low1,o1⟩ (fun i hi s' hs=>YQ hON (fun _ _=>rfl) n 1 2 (c i) _ (q3 i hi).2.2.2 s' (hs.get (by rw [Sto.get_mk (by omega)];exact g1)) (hs.get (by rw [Sto.get_mk (by omega)];exact g2)));rw [kR]at this;refine bL rfl (this.wcall fun so hso=>?_);rw [aJ];obtain ⟨n2,low2,o2,e2,h3,h4⟩:=cA hso;rw [e2];simp +contextual +decide (maxSteps:=1000000) only [↓ wP,wQ,ne_eq];rw [HR,k1];rfl
abbrev LSt:List lX:=[ent 116 RZ,ent 118 mY,ent 113 mX,ent 114 nI]
theorem aJg (n:Int) (c:Nat) (cs:List AV) (o:Ob) (hl:cs.length=4) (hcc:cs.all AV.isCell=true) (ho:decOb (.agg cs)=some o) (s:Sto) (hc:s.get c=some (aW 0 [.int .i64 n])):RetS Tryz.prog (bJ LSt) (.func (.func 112) [] [.ptr c 0 0]) [.agg cs] s (.bool (BI n o)):=by
 refine RetS.run (first:=[]) (args:=[.agg cs]) (cap:=[.ptr c 0 0]) aG rfl (by kernel_rfl) Tryz.func112 Tryz.ntmps112 Tryz.results112 rfl rfl ?_;obtain ⟨n0,low0,o0⟩:=s;have hcn:c<n0:=Sto.get_lt hc;rw [Sto.get_mk hcn]at hc;have f0:=bK hcn;have e1:=xA ho;have e2:=GP (n:=n) ho
 have hz:0+4<=cs.length:=by omega
 have hls:aM cs 0 4=cs:=by unfold aM;rw [List.drop_zero,List.take_of_length_le (by omega)]
 show Wk _ _ _ _ ⟨11,none,112,Tr.leaf.lay 0 [.agg cs,.ptr c 0 0],[],⟨n0,n0,o0⟩,.no⟩ _
 cases k1:mL o with
 | false=>
   simp +contextual +decide (maxSteps:=1000000) only [↓ wP,wQ,tf,Nat.reduceAdd,ne_eq,hl,hcc,hls,dC,e1,k1,aT];refine ⟨by rw [BI,k1];rfl,aX (by omega) fun id hid=>by rw [Tr.get_set_ne _ _ (by omega)]⟩
 | true=>
   simp +contextual +decide (maxSteps:=1000000) only [↓ wP,wQ,tf,Nat.reduceAdd,ne_eq,hc,hl,hcc,hls,f0,dC,e1,e2,k1,aT];refine ⟨by rw [BI,k1,aDi k1];rfl,aX (by omega) fun id hid=>by rw [Tr.get_set_ne _ _ (by omega)]⟩
theorem aJh (n:Int) (c:Nat) (x:Int) (s:Sto) (hn:0<=n/\n<=9223372036854775807) (hc:s.get c=some (aW 0 [.int .i64 n])):RetS Tryz.prog (bJ LSt) (.func (.func 115) [] [.ptr c 0 0]) [sS x] s (.bool (kN x 0 (n-1))):=by
 refine RetS.run (first:=[]) (args:=[sS x]) (cap:=[.ptr c 0 0]) aG rfl (by kernel_rfl) Tryz.func115 Tryz.ntmps115 Tryz.results115 rfl rfl ?_;obtain ⟨n0,low0,o0⟩:=s;have hcn:c<n0:=Sto.get_lt hc;rw [Sto.get_mk hcn]at hc;have f0:=bK hcn;have e1:IntKind.i64.wrap (n-1)=n-1:=IntWalk.i64_in _ (by omega);show Wk _ _ _ _ ⟨8,none,115,Tr.leaf.lay 0 [.int .i64 x,.ptr c 0 0],[],⟨n0,n0,o0⟩,.no⟩ _;simp +contextual +decide (maxSteps:=1000000) only [↓ wP,wQ,tf,ne_eq,hc,f0,dC,e1,cC,aT]
 exact aX (by omega) fun id hid=>rfl
theorem aJi (x:kM) (s:Sto):RetS Tryz.prog (bJ LSt) (.func (.func 117) [] []) [eH x] s (.bool (jR x)):=by
 refine RetS.run (first:=[]) (args:=[eH x]) (cap:=[]) aG rfl (by kernel_rfl) Tryz.func117 Tryz.ntmps117 Tryz.results117 rfl rfl ?_;obtain ⟨n0,low0,o0⟩:=s;obtain ⟨k,m⟩:=x;show Wk _ _ _ _ ⟨11,none,117,Tr.leaf.lay 0 [.agg [.int .i64 k,.int .i64 m]],[],⟨n0,n0,o0⟩,.no⟩ _
 cases k1:dB k with
 | false=>
   simp +contextual +decide (maxSteps:=1000000) only [↓ wP,wQ,tf,Nat.reduceAdd,ne_eq,dC,jS,k1,aT];refine ⟨by simp only [jR,k1];rfl,aX (by omega) fun id hid=>by rw [Tr.get_set_ne _ _ (by omega)]⟩
 | true=>
   simp +contextual +decide (maxSteps:=1000000) only [↓ wP,wQ,tf,Nat.reduceAdd,ne_eq,dC,jS,k1,aT];refine ⟨by simp only [jR,k1];rfl,aX (by omega) fun id hid=>by rw [Tr.get_set_ne _ _ (by omega)]⟩
theorem DG {a:AV} {l:List kM} (h:decVals a=some l):∀ i,i<l.length->∀ {q:IntKind} {d:Option AV},dS (some 2) (l.map eH) (.int q (i:Nat)) d=some (.pf (.agg (GS (l.getD i default)))):=fun i hi {q d}=>aOo l hi
theorem qQ {l:List Int}:∀ i,i<l.length->∀ {q:IntKind} {d:Option AV},dS (some 1) (l.map sS) (.int q (i:Nat)) d=some (.pf (sS (l.getD i default))):=fun i hi {q d}=>eF sT (by omega) (by omega)
set_option maxHeartbeats 2000000 in
theorem stored_ok:Abs.Ok Tryz.prog 58 uE:=by
 intro args v hg
 match args,hg with
 | [a],hg=>
   obtain ⟨w,hw,rfl⟩:=Option.map_eq_some_iff.1 hg;have hund:=(sJ hw).und;obtain ⟨os,ts,us,is,rfl,h1,h2,h3,h4,c1,c2,c3,c4⟩:=nH hw;obtain ⟨xs,c,hsl,hlen,hat⟩:=uD h1;have s2:=fM h2;have s3:=dA h3;have s4:=fM h4;have hll:=hsl.2;refine aF (L:=LSt) (elist_cons iIn_ok.ent (elist_cons iNumber_ok.ent (elist_cons formed_ok.ent (elist_cons referring_ok.ent aE)))) aG (by kernel_rfl) Tryz.func58 Tryz.ntmps58 Tryz.results58 rfl rfl (aA hund aD) aI ?_
   have hO:∀ a σ,bJ LSt 119 a σ=none:=fun _ _=>rfl
   have hI:∀ a σ,bJ LSt 120 a σ=none:=fun _ _=>rfl
   have hU:∀ a σ,bJ LSt 121 a σ=none:=fun _ _=>rfl
   simp +contextual +decide (maxSteps:=1000000) only [↓ wP,wQ,tf,Nat.reduceAdd,ne_eq,c1,c2,c3,c4,hsl.len,hlen,hO,aQ]
   have r1:=fun (s:Sto) (hs:s.get 1=some (aW 0 [.int .i64 (w.objs.length:Nat)]))=>RK (O:=bJ LSt) (fun _ _=>rfl) (fun _ _=>rfl) (fun _ _=>rfl) hO 112 [.ptr 1 0 0] os xs hsl w.objs.length hlen c (fun i hi {q d}=>(hat i hi).1) (fun i hi=>(hat i hi).2.1) (fun i hi=>(hat i hi).2.2.1) (fun i=>BI w.objs.length (w.objs.getD i default)) 120 s
    (fun i hi s' hs'=>aJg w.objs.length 1 (c i) _ (hat i hi).2.1 (hat i hi).2.2.1 (hat i hi).2.2.2 s' (hs'.get hs))
   refine bL rfl ((r1 _ (by simp +contextual +decide (maxSteps:=1000000) only [↓ wP,wQ])).wcall fun so hso=>?_);rw [kR,aJ];obtain ⟨n1,low1,o1,e1,h5,h6⟩:=cA hso;rw [e1];clear e1 hso
   have g0:o1.get 0=some (aW 0 [os,ts,us,is,.int .i64 w.used]):=by rw [h6 0 (by omega)];simp [Tr.get_set]
   have g1:o1.get 1=some (aW 0 [.int .i64 (w.objs.length:Nat)]):=by rw [h6 1 (by omega)];simp [Tr.get_set]
   have f0:=bK (show 0<n1 by omega)
   cases k1:(decide (w.objs.length<=120)&&w.objs.all (BI w.objs.length)) with
   | false=>
     simp +contextual +decide (maxSteps:=1000000) only [↓ wP,wQ,ne_eq];rw [iM fun h=>by rw [decide_eq_true h.1,h.2.2.2.2.2.1]at k1;cases k1]
   | true=>
   simp +contextual +decide (maxSteps:=1000000) only [↓ wP,wQ,tf,Nat.reduceAdd,ne_eq,g0,f0,hI,aQ]
   have r2:=fun (s:Sto) (hs:s.get 1=some (aW 0 [.int .i64 (w.objs.length:Nat)]))=>DD (O:=bJ LSt) (fun _ _=>rfl) (fun _ _=>rfl) (fun _ _=>rfl) hI 115 [.ptr 1 0 0] ts _ s2 w.tasks.length (by simp) (fun i=>sS (w.tasks.getD i default)) (fun i hi {q d}=>qQ i hi) (fun i hi=>rfl) (fun i=>kN (w.tasks.getD i default) 0 ((w.objs.length:Int)-1)) 120 s
    (fun i hi s' hs'=>aJh w.objs.length 1 _ s' (by omega) (hs'.get hs))
   refine bL rfl ((r2 _ (by rw [Sto.get_mk (by omega)];exact g1)).wcall fun so hso=>?_);rw [kR w.tasks (fun t=>kN t 0 ((w.objs.length:Int)-1)),aJ];obtain ⟨n2,low2,o2,e1,h7,h8⟩:=cA hso;rw [e1];clear e1 hso
   have g0':o2.get 0=some (aW 0 [os,ts,us,is,.int .i64 w.used]):=by rw [h8 0 (by omega)];exact g0
   have f0':=bK (show 0<n2 by omega)
   cases k2:(decide (w.tasks.length<=120)&&w.tasks.all (fun t=>kN t 0 ((w.objs.length:Int)-1))) with
   | false=>
     simp +contextual +decide (maxSteps:=1000000) only [↓ wP,wQ,ne_eq];rw [iM fun h=>by rw [decide_eq_true h.2.1,h.2.2.2.2.2.2.1]at k2;cases k2]
   | true=>
   simp +contextual +decide (maxSteps:=1000000) only [↓ wP,wQ,tf,Nat.reduceAdd,ne_eq,g0',f0',hU,aQ]
   have r3:=fun (s:Sto)=>RN (O:=bJ LSt) (fun _ _=>rfl) (fun _ _=>rfl) (fun _ _=>rfl) hU 117 [] us _ s3 w.outs.length (by simp) (fun i=>GS (w.outs.getD i default)) (fun i hi {q d}=>DG h3 i hi) (fun _ _=>rfl) (fun _ _=>rfl) (fun i=>jR (w.outs.getD i default)) 100 s
    (fun i hi s' hs'=>aJi _ s')
   refine bL rfl ((r3 _).wcall fun so hso=>?_);rw [kR w.outs jR,aJ];obtain ⟨n3,low3,o3,e1,h9,h10⟩:=cA hso;rw [e1];clear e1 hso
   have g0'':o3.get 0=some (aW 0 [os,ts,us,is,.int .i64 w.used]):=by rw [h10 0 (by omega)];exact g0'
   have f0'':=bK (show 0<n3 by omega)
   cases k3:(decide (w.outs.length<=100)&&w.outs.all jR) with
   | false=>
     simp +contextual +decide (maxSteps:=1000000) only [↓ wP,wQ,ne_eq];rw [iM fun h=>by rw [decide_eq_true h.2.2.1,h.2.2.2.2.2.2.2.1]at k3;cases k3]
   | true=>
   simp +contextual +decide (maxSteps:=1000000) only [↓ wP,wQ,tf,Nat.reduceAdd,ne_eq,g0'',f0'',hI,aQ]
   have r4:=fun (s:Sto)=>DD (O:=bJ LSt) (fun _ _=>rfl) (fun _ _=>rfl) (fun _ _=>rfl) hI 118 [] is _ s4 w.ins.length (by simp) (fun i=>sS (w.ins.getD i default)) (fun i hi {q d}=>qQ i hi) (fun i hi=>rfl) (fun i=>dB (w.ins.getD i default)) 50 s
    (fun i hi s' hs'=>.orc rfl)
   refine bL rfl ((r4 _).wcall fun so hso=>?_);rw [kR w.ins dB,aJ];obtain ⟨n4,low4,o4,e1,h11,h12⟩:=cA hso;rw [e1];clear e1 hso
   have g0''':o4.get 0=some (aW 0 [os,ts,us,is,.int .i64 w.used]):=by rw [h12 0 (by omega)];exact g0''
   have f0''':=bK (show 0<n4 by omega)
   cases k4:(decide (w.ins.length<=50)&&w.ins.all dB) with
   | false=>
     simp +contextual +decide (maxSteps:=1000000) only [↓ wP,wQ,ne_eq];rw [iM fun h=>by rw [decide_eq_true h.2.2.2.1,h.2.2.2.2.2.2.2.2]at k4;cases k4]
   | true=>
   simp only [Bool.and_eq_true,decide_eq_true_eq]at k1 k2 k3 k4
   cases k5:kN w.used 0 1073741824 with
   | false=>
     simp +contextual +decide (maxSteps:=1000000) only [↓ wP,wQ,tf,Nat.reduceAdd,ne_eq,g0''',f0''',cC,k5];rw [iM fun h=>by rw [h.2.2.2.2.1]at k5;cases k5]
   | true=>
     simp +contextual +decide (maxSteps:=1000000) only [↓ wP,wQ,tf,Nat.reduceAdd,ne_eq,g0''',f0''',cC,k5];rw [wY.2 ⟨k1.1,k2.1,k3.1,k4.1,k5,k1.2,k2.2,k3.2,k4.2⟩]
end
end Go.Proofs.YtpmccfnfikkkbaaGreat.I
