/-
  Worlds, in plain words; how they lie in the machine.
-/
import Derived.Test.YtajngkkihadgfaaGreatHw
import Derived.Test.YtajngkkihadgfaaGreatEp
set_option linter.unusedVariables false
set_option linter.unusedSimpArgs false
namespace Go.Proofs.YtajngkkihadgfaaGreat
open Go.Abs Go Go.Abs.TryzF
noncomputable section
set_option maxRecDepth 10000
structure Wd where
 objs:List Ob
 tasks:List Int
 outs:List eK
 ins:List Int
 used:Int
 deriving DecidableEq
def yZ:Wd:=⟨[],[],[],[],0⟩
def nW (n:Int) (v:eK):Bool:=!(decide (v.1=5)&&decide (n<=v.2))
def zA (n:Int) (l:List eK):Bool:=l.all (nW n)
def QR (n:Int) (f:Fr):Bool:=zA n f.env&&zA n f.vals
def kL (n:Int) (o:Ob):Bool:=o.frs.all (QR n)&&zA n o.vals
def wR (n:Int) (o:Ob):Bool:=iS o&&kL n o
def lI (v:eK):Bool:=dP v.1&&dP v.2
def sO (w:Wd):Bool:=decide (w.objs.length<=120)&&decide (w.tasks.length<=120)&&decide (w.outs.length<=100)&&decide (w.ins.length<=50)&&jI w.used 0 1073741824 &&
 w.objs.all (wR w.objs.length)&&w.tasks.all (fun t=>jI t 0 ((w.objs.length:Int)-1))&&w.outs.all lI&&w.ins.all dP
def IU:AV->Option Int
 | .int .i64 n=>some n
 | _=>none
def cY:AV->Option (List Int):=GH IU
def nX:AV->Option (List Ob):=GH eD
def jE:AV->Option Wd
 | .agg [os,ts,us,is,.int .i64 n]=>match nX os,cY ts,cB us,cY is with
   | some a,some b,some c,some d=>some ⟨a,b,c,d,n⟩
   | _,_,_,_=>none
 | _=>none
theorem MO {a:AV} {n:Int} (h:IU a=some n):a=mV n:=by
 unfold IU at h
 split at h
 ·cases h;rfl
 ·cases h
theorem gW {a:AV} {l:List Int} (h:cY a=some l):Sl a (l.map mV):=by
 unfold cY GH at h
 split at h
 ·simp at h;subst h;exact ⟨.inl ⟨rfl,rfl⟩,Nat.zero_le _⟩
 ·rename_i xs c
  split at h
  ·rename_i hl
   have:=DX (g:=mV) (fun a x=>MO) xs l h
   subst this
   exact ⟨.inr ⟨c,rfl⟩,hl⟩
  ·cases h
 ·cases h
theorem QS {a:AV} {l:List Int} (h:Sl a (l.map mV)):cY a=some l:=by
 rcases h.1 with ⟨rfl,e⟩ | ⟨c,rfl⟩
 ·rw [List.map_eq_nil_iff.1 e];rfl
 ·show (if _ then _ else _)=_
  rw [if_pos h.2,DW (f:=IU) (g:=mV) fun _=>rfl]
theorem CY {a:AV} {w:Wd} (h:jE a=some w):∃ os ts us is,a=.agg [os,ts,us,is,.int .i64 w.used]/\nX os=some w.objs/\cY ts=some w.tasks/\cB us=some w.outs/\cY is=some w.ins:=by
 unfold jE at h
 split at h
 ·rename_i os ts us is n
  split at h
  ·rename_i a b c d h1 h2 h3 h4
   cases h
   exact ⟨os,ts,us,is,rfl,h1,h2,h3,h4⟩
  ·cases h
 ·cases h
theorem MP (a:AV) (o:Ob) (h:eD a=some o):∃ cs,a=.agg cs/\cs.length=4/\cs.all AV.isCell=true:=by
 obtain ⟨vs,fs,rfl,h1,h2⟩:=iC h
 refine ⟨_,rfl,rfl,?_⟩
 simp only [List.all_cons,List.all_nil,bN h1,fO h2];rfl
theorem CZ {α:Type} [Inhabited α] {f:AV->Option α} {k:Nat} (hf:∀ a x,f a=some x->∃ cs,a=.agg cs/\cs.length=k/\cs.all AV.isCell=true) {a:AV} {l:List α} (h:GH f a=some l):
 ∃ (xs:List AV) (c:Nat->List AV),Sl a xs/\xs.length=l.length/\(∀ i,i<l.length->(∀ {q:IntKind} {d:Option AV},fA (some k) xs (.int q (i:Nat)) d=some (.pf (.agg (c i))))/\(c i).length=k/\(c i).all AV.isCell=true/\f (.agg (c i))=some (l.getD i default)):=by
 obtain ⟨xs,h1,h2,h3⟩:=xD h
 refine ⟨xs,fun i=>(xs.getD i .top).cells,h1,h2,fun i hi=>?_⟩
 have hx:i<xs.length:=by omega
 obtain ⟨cs,q1,q2,q3⟩:=hf _ _ (h3 i hx hi)
 have hxi:xs.getD i .top=.agg cs:=by rw [bI hx];exact q1
 refine ⟨fun {q d}=>?_,by simp only [hxi];exact q2,by simp only [hxi];exact q3,?_⟩
 ·simp only [hxi]
  refine jQ (by omega) (by omega) ?_ q2
  rw [Int.toNat_natCast,List.getElem?_eq_getElem hx,q1];rfl
 ·simp only [hxi,AV.cells]
  rw [bI hi,<-h3 i hx hi,q1]
theorem tZ {a:AV} {l:List Ob} (h:nX a=some l):∃ (xs:List AV) (c:Nat->List AV),Sl a xs/\xs.length=l.length/\(∀ i,i<l.length->(∀ {q:IntKind} {d:Option AV},fA (some 4) xs (.int q (i:Nat)) d=some (.pf (.agg (c i))))/\(c i).length=4/\(c i).all AV.isCell=true/\eD (.agg (c i))=some (l.getD i default)):=CZ MP h
theorem zB {a:AV} {l:List Ob} (h:nX a=some l):UnderE 0 a:=by
 obtain ⟨xs,h1,h2,h3⟩:=xD h
 refine tF h1 fun x hx=>?_
 obtain ⟨i,hi,rfl⟩:=List.mem_iff_getElem.1 hx
 exact qI (h3 i hi (by omega))
theorem lM {a:AV} {l:List Int} (h:cY a=some l):UnderE 0 a:=tF (gW h) (NU l)
theorem wS {a:AV} {w:Wd} (h:jE a=some w):UnderE 0 a:=by
 obtain ⟨os,ts,us,is,rfl,h1,h2,h3,h4⟩:=CY h
 refine eB fun x hx=>?_
 simp at hx
 rcases hx with rfl | rfl | rfl | rfl | rfl
 ·exact zB h1
 ·exact lM h2
 ·exact iD h3
 ·exact lM h4
 ·exact ⟨1,rfl⟩
theorem sW {a:AV} {w:Wd} (h:jE a=some w):∃ os ts us is,a=.agg [os,ts,us,is,.int .i64 w.used]/\nX os=some w.objs/\cY ts=some w.tasks/\cB us=some w.outs/\cY is=some w.ins/\os.isCell=true/\ts.isCell=true/\us.isCell=true/\is.isCell=true:=by
 obtain ⟨os,ts,us,is,rfl,h1,h2,h3,h4⟩:=CY h
 exact ⟨os,ts,us,is,rfl,h1,h2,h3,h4,fO h1,fO h2,fO h3,fO h4⟩
end
end Go.Proofs.YtajngkkihadgfaaGreat
/-
 The program of images: every,for objects,outputs and numbers.
-/
namespace Go.Proofs.YtajngkkihadgfaaGreat
open Go.Abs Go Go.Abs.TryzF
noncomputable section
set_option maxRecDepth 10000
theorem QT {O:bW} (ho:∀ a σ,O 142 a σ=none) (g:FuncId) (cap:List AV) (a:AV) (xs:List AV) (ha:Sl a xs) (m:Nat) (hlen:xs.length=m) (c:Nat->List AV) (hix:∀ i,i<m->∀ {q:IntKind} {d:Option AV},fA (some 4) xs (.int q (i:Nat)) d=some (.pf (.agg (c i)))) (hcl:∀ i,i<m->(c i).length=4) (p:Nat->Bool) (s:Sto)
 (h:∀ i,i<m->∀ s',Sim s s'->RetS Tryz.prog O (.func (.func g) [] cap) [.agg (c i)] s' (.bool (p i))):RetS Tryz.prog O (.func (.func 142) [] []) [a,.func (.func g) [] cap] s (.int .i64 (match (List.range m).findIdx? p with | some i=>((i:Nat):Int) | none=>-1)):=by
 have hll:=ha.2
 refine RetS.run (first:=[]) (args:=[a,.func (.func g) [] cap]) (cap:=[]) aQ (ho _ _) (by kernel_rfl) Tryz.func142 Tryz.ntmps142 Tryz.results142 rfl rfl ?_
 obtain ⟨n0,low0,o0⟩:=s
 show Wk _ _ _ _ ⟨19,none,142,Tr.leaf.lay 0 [a,.func (.func g) [] cap],[],⟨n0,n0,o0⟩,.no⟩ _
 simp +contextual +decide (maxSteps:=1000000) only [↓ wP,wQ,tf,Nat.reduceAdd,ne_eq,ha.len,hlen]
 refine bU (fun i e=>∃ t n low o,e=⟨19,none,142,t,[],⟨n,low,o⟩,.no⟩/\t.val 0=a/\t.val 1=.func (.func g) [] cap/\t.val 7=.int .i64 (m:Nat)/\t.val 8=.int .i64 (i:Nat)/\i<=m/\(∀ j,j<i->p j=false)/\n0<=n/\∀ id,id<n0->o.get id=o0.get id) (fun i=>m-i) 0
  ⟨_,n0,n0,o0,rfl,by simp +decide only [↓ aB,aD,aC],by simp +decide only [↓ aB,aD,aC],by simp +decide only [↓ aB,aD,aC],by simp +decide only [↓ aB,aD,aC];rfl,Nat.zero_le _,fun j hj=>by omega,Nat.le_refl _,fun _ _=>rfl⟩ ?_
 rintro i _ ⟨t,n,low,o,rfl,t0,t1,t7,t8,hi,hpre,hn,hoth⟩
 by_cases hlt:i<m
 ·have d1:((i:Int)<(m:Nat))=True:=eq_true (by omega)
  have d5:=aW (i:=i) (by omega)
  have x1:=fun {q d}=>hix i hlt (q:=q) (d:=d)
  have x2:=hcl i hlt
  have x3:=h i hlt
  generalize c i=cs at *
  simp +contextual +decide (maxSteps:=1000000) only [↓ wP,wQ,tf,Nat.reduceAdd,ne_eq,ha.idx,t0,t1,t7,t8,d1,x1,eQ,x2]
  refine cP.1 ((x3 ⟨n,low,o⟩ (bB (low:=low0) hn hoth)).wcall fun so hso=>?_)
  rw [aJ]
  obtain ⟨n',low',o',e1,h1,h2⟩:=cS hso
  rw [e1]
  cases hp:p i with
  | true=>
    have hf:(List.range m).findIdx? p=some i:=by
     rw [List.findIdx?_eq_some_iff_getElem]
     refine ⟨by simpa using hlt,by simpa using hp,fun j hj=>?_⟩
     have:=hpre j hj
     simpa using this
    simp +contextual +decide (maxSteps:=1000000) only [↓ wP,wQ,tf,Nat.reduceAdd,ne_eq,t0,t1,t7,t8,aY,aM,hf]
    exact bB (by omega) (fun id hid=>by rw [h2 id (by omega)];exact hoth id hid)
  | false=>
    simp +contextual +decide (maxSteps:=1000000) only [↓ wP,wQ,tf,Nat.reduceAdd,ne_eq,t0,t1,t7,t8,d5]
    exact ⟨i+1,by show _-_<_-_;omega,_,n',low',o',rfl,by simp +decide only [↓ aB,aD,aC,t0],by simp +decide only [↓ aB,aD,aC,t1],by simp +decide only [↓ aB,aD,aC,t7],by simp +decide only [↓ aB,aD,aC],hlt,fun j hj=>by
     rcases Nat.lt_succ_iff_lt_or_eq.1 hj with hj | rfl
     ·exact hpre j hj
     ·exact hp,by omega,fun id hid=>by rw [h2 id (by omega)];exact hoth id hid⟩
 ·have:i=m:=by omega
  subst this
  have d1:(((i:Nat):Int)<(i:Nat))=False:=eq_false (by omega)
  have hf:(List.range i).findIdx? p=none:=by
   rw [List.findIdx?_eq_none_iff]
   intro x hx
   exact hpre x (List.mem_range.1 hx)
  simp +contextual +decide (maxSteps:=1000000) only [↓ wP,wQ,tf,Nat.reduceAdd,ne_eq,t0,t1,t7,t8,d1,aY,aM,hf]
  exact bB hn hoth
theorem GB {O:bW} (ho:∀ a σ,O 142 a σ=none) (ho':∀ a σ,O 134 a σ=none) (g:FuncId) (cap:List AV) (a:AV) (xs:List AV) (ha:Sl a xs) (m:Nat) (hlen:xs.length=m) (c:Nat->List AV) (hix:∀ i,i<m->∀ {q:IntKind} {d:Option AV},fA (some 4) xs (.int q (i:Nat)) d=some (.pf (.agg (c i)))) (hcl:∀ i,i<m->(c i).length=4) (p:Nat->Bool) (s:Sto)
 (h:∀ i,i<m->∀ s',Sim s s'->RetS Tryz.prog O (.func (.func g) [] cap) [.agg (c i)] s' (.bool (p i))):RetS Tryz.prog O (.func (.func 134) [] []) [a,.func (.func g) [] cap] s (.bool ((List.range m).any p)):=by
 have hx:=fun s' hs=>QT ho g cap a xs ha m hlen c hix hcl p s' fun x hx s'' hs'=>h x hx s'' (Sim.trans (b:=s') hs hs')
 refine RetS.run (first:=[]) (args:=[a,.func (.func g) [] cap]) (cap:=[]) aQ (ho' _ _) (by kernel_rfl) Tryz.func134 Tryz.ntmps134 Tryz.results134 rfl rfl ?_
 obtain ⟨n0,low0,o0⟩:=s
 show Wk _ _ _ _ ⟨9,none,134,Tr.leaf.lay 0 [a,.func (.func g) [] cap],[],⟨n0,n0,o0⟩,.no⟩ _
 simp +contextual +decide (maxSteps:=1000000) only [↓ wP,wQ,tf,Nat.reduceAdd,ne_eq,ho,aO]
 refine bP (ho _ _) ((hx ⟨n0,n0,o0⟩ (bB (Nat.le_refl _) fun _ _=>rfl)).wcall fun so hso=>?_)
 rw [aJ]
 obtain ⟨n',low',o',e1,h1,h2⟩:=cS hso
 rw [e1]
 cases hf:(List.range m).findIdx? p with
 | none=>
   have hany:(List.range m).any p=false:=by
    rw [List.any_eq_false];intro x hx;have:=List.findIdx?_eq_none_iff.1 hf x hx;simp [this]
   simp +contextual +decide (maxSteps:=1000000) only [↓ wP,wQ,tf,Nat.reduceAdd,ne_eq,aY,aM,hany,show ((0:Int)<=-1)=False from eq_false (by omega)]
   exact bB h1 h2
 | some i=>
   have hany:(List.range m).any p=true:=by
    obtain ⟨h3,h4,_⟩:=List.findIdx?_eq_some_iff_getElem.1 hf
    rw [List.any_eq_true];exact ⟨_,List.getElem_mem h3,h4⟩
   simp +contextual +decide (maxSteps:=1000000) only [↓ wP,wQ,tf,Nat.reduceAdd,ne_eq,aY,aM,hany,show ((0:Int)<=(i:Nat))=True from eq_true (by omega)]
   exact bB h1 h2
theorem MQ {O:bW} (ho1:∀ a σ,O 135 a σ=none) (g:FuncId) (cap:List AV) (cs:List AV) (hcs:cs.length=4) (hcc:cs.all AV.isCell=true) (b:Bool) (c:Nat) (s:Sto) (hc:s.get c=some (aX 0 [.func (.func g) [] cap]))
 (h:∀ s',Sim s s'->RetS Tryz.prog O (.func (.func g) [] cap) [.agg cs] s' (.bool b)):RetS Tryz.prog O (.func (.func 135) [] [.ptr c 0 0]) [.agg cs] s (.bool !b):=by
 refine RetS.run (first:=[]) (args:=[.agg cs]) (cap:=[.ptr c 0 0]) aQ (ho1 _ _) (by kernel_rfl) Tryz.func135 Tryz.ntmps135 Tryz.results135 rfl rfl ?_
 obtain ⟨n0,low0,o0⟩:=s
 have hcn:c<n0:=Sto.get_lt hc
 rw [Sto.get_mk hcn]at hc
 have f0:=bK hcn
 have hz:0+4<=cs.length:=by omega
 show Wk _ _ _ _ ⟨8,none,135,Tr.leaf.lay 0 [.agg cs,.ptr c 0 0],[],⟨n0,n0,o0⟩,.no⟩ _
 simp +contextual +decide (maxSteps:=1000000) only [↓ wP,wQ,tf,Nat.reduceAdd,ne_eq,hc,hcc,hcs,hz,f0,bC,show aG cs 0 4=cs from by unfold aG;rw [List.drop_zero,List.take_of_length_le (by omega)]]
 refine cP.1 ((h _ (bB (by omega) fun id hid=>by rw [Tr.get_set_ne _ _ (by omega)])).wcall fun so hso=>?_)
 rw [aJ]
 obtain ⟨n',low',o',e1,h1,h2⟩:=cS hso
 rw [e1]
 simp +contextual +decide (maxSteps:=1000000) only [↓ wP,wQ,tf,Nat.reduceAdd,ne_eq,aY,aM]
 exact bB (by omega) (fun id hid=>by rw [h2 id (by omega),Tr.get_set_ne _ _ (by omega)])
theorem QU {O:bW} (ho:∀ a σ,O 142 a σ=none) (ho':∀ a σ,O 134 a σ=none) (ho1:∀ a σ,O 135 a σ=none) (ho2:∀ a σ,O 104 a σ=none)
 (g:FuncId) (cap:List AV) (a:AV) (xs:List AV) (ha:Sl a xs) (m:Nat) (hlen:xs.length=m) (c:Nat->List AV) (hix:∀ i,i<m->∀ {q:IntKind} {d:Option AV},fA (some 4) xs (.int q (i:Nat)) d=some (.pf (.agg (c i)))) (hcl:∀ i,i<m->(c i).length=4) (hcc:∀ i,i<m->(c i).all AV.isCell=true) (p:Nat->Bool) (most:Nat) (s:Sto)
 (h:∀ i,i<m->∀ s',Sim s s'->RetS Tryz.prog O (.func (.func g) [] cap) [.agg (c i)] s' (.bool (p i))):RetS Tryz.prog O (.func (.func 104) [] []) [a,.int .i64 (most:Nat),.func (.func g) [] cap] s (.bool (decide (m<=most)&&(List.range m).all p)):=by
 refine RetS.run (first:=[]) (args:=[a,.int .i64 (most:Nat),.func (.func g) [] cap]) (cap:=[]) aQ (ho2 _ _) (by kernel_rfl) Tryz.func104 Tryz.ntmps104 Tryz.results104 rfl rfl ?_
 obtain ⟨n0,low0,o0⟩:=s
 show Wk _ _ _ _ ⟨17,none,104,Tr.leaf.lay 0 [a,.int .i64 (most:Nat),.func (.func g) [] cap],[],⟨n0,n0,o0⟩,.no⟩ _
 have d1:(((m:Nat):Int)<=(most:Nat))=(m<=most):=propext (by omega)
 by_cases hl:m<=most
 ·simp +contextual +decide (maxSteps:=1000000) only [↓ wP,wQ,tf,Nat.reduceAdd,ne_eq,ha.len,hlen,d1,hl,ho',aO]
  refine bP (ho' _ _) ((GB ho ho' 135 [.ptr n0 0 0] a xs ha m hlen c hix hcl (fun i=>!p i) ⟨n0+1,n0,o0.set n0 (aX 0 [.func (.func g) [] cap])⟩ fun i hi s' hs=>?_).wcall fun so hso=>?_)
  ·refine MQ ho1 g cap (c i) (hcl i hi) (hcc i hi) (p i) n0 s' (hs.get ?_) fun s'' hs'=>h i hi s'' ?_
   ·rw [Sto.get_mk (by omega),Tr.get_set_same]
   ·exact (bB (by omega) fun id hid=>by rw [Tr.get_set_ne _ _ (by omega)]:Sim ⟨n0,low0,o0⟩ ⟨n0+1,n0,o0.set n0 (aX 0 [.func (.func g) [] cap])⟩).trans (hs.trans hs')
  ·rw [aJ]
   obtain ⟨n',low',o',e1,h1,h2⟩:=cS hso
   rw [e1]
   have hany:((List.range m).any fun x=>!p x) = !(List.range m).all p:=by rw [<-List.not_all_eq_any_not]
   rw [hany]
   simp +contextual +decide (maxSteps:=1000000) only [↓ wP,wQ,tf,Nat.reduceAdd,ne_eq,aY,aM,Bool.not_not]
   exact bB (by omega) (fun id hid=>by rw [h2 id (by omega),Tr.get_set_ne _ _ (by omega)])
 ·simp +contextual +decide (maxSteps:=1000000) only [↓ wP,wQ,tf,Nat.reduceAdd,ne_eq,ha.len,hlen,d1,hl,aY,aM]
  exact ⟨by simp,bB (by omega) (fun id hid=>by rw [Tr.get_set_ne _ _ (by omega)])⟩
theorem QV {O:bW} (ho:∀ a σ,O 144 a σ=none) (g:FuncId) (cap:List AV) (a:AV) (xs:List AV) (ha:Sl a xs) (m:Nat) (hlen:xs.length=m) (c:Nat->List AV) (hix:∀ i,i<m->∀ {q:IntKind} {d:Option AV},fA (some 2) xs (.int q (i:Nat)) d=some (.pf (.agg (c i)))) (hcl:∀ i,i<m->(c i).length=2) (p:Nat->Bool) (s:Sto)
 (h:∀ i,i<m->∀ s',Sim s s'->RetS Tryz.prog O (.func (.func g) [] cap) [.agg (c i)] s' (.bool (p i))):RetS Tryz.prog O (.func (.func 144) [] []) [a,.func (.func g) [] cap] s (.int .i64 (match (List.range m).findIdx? p with | some i=>((i:Nat):Int) | none=>-1)):=by
 have hll:=ha.2
 refine RetS.run (first:=[]) (args:=[a,.func (.func g) [] cap]) (cap:=[]) aQ (ho _ _) (by kernel_rfl) Tryz.func144 Tryz.ntmps144 Tryz.results144 rfl rfl ?_
 obtain ⟨n0,low0,o0⟩:=s
 show Wk _ _ _ _ ⟨19,none,144,Tr.leaf.lay 0 [a,.func (.func g) [] cap],[],⟨n0,n0,o0⟩,.no⟩ _
 simp +contextual +decide (maxSteps:=1000000) only [↓ wP,wQ,tf,Nat.reduceAdd,ne_eq,ha.len,hlen]
 refine bU (fun i e=>∃ t n low o,e=⟨19,none,144,t,[],⟨n,low,o⟩,.no⟩/\t.val 0=a/\t.val 1=.func (.func g) [] cap/\t.val 7=.int .i64 (m:Nat)/\t.val 8=.int .i64 (i:Nat)/\i<=m/\(∀ j,j<i->p j=false)/\n0<=n/\∀ id,id<n0->o.get id=o0.get id) (fun i=>m-i) 0
  ⟨_,n0,n0,o0,rfl,by simp +decide only [↓ aB,aD,aC],by simp +decide only [↓ aB,aD,aC],by simp +decide only [↓ aB,aD,aC],by simp +decide only [↓ aB,aD,aC];rfl,Nat.zero_le _,fun j hj=>by omega,Nat.le_refl _,fun _ _=>rfl⟩ ?_
 rintro i _ ⟨t,n,low,o,rfl,t0,t1,t7,t8,hi,hpre,hn,hoth⟩
 by_cases hlt:i<m
 ·have d1:((i:Int)<(m:Nat))=True:=eq_true (by omega)
  have d5:=aW (i:=i) (by omega)
  have x1:=fun {q d}=>hix i hlt (q:=q) (d:=d)
  have x2:=hcl i hlt
  have x3:=h i hlt
  generalize c i=cs at *
  simp +contextual +decide (maxSteps:=1000000) only [↓ wP,wQ,tf,Nat.reduceAdd,ne_eq,ha.idx,t0,t1,t7,t8,d1,x1,eQ,x2]
  refine cP.1 ((x3 ⟨n,low,o⟩ (bB (low:=low0) hn hoth)).wcall fun so hso=>?_)
  rw [aJ]
  obtain ⟨n',low',o',e1,h1,h2⟩:=cS hso
  rw [e1]
  cases hp:p i with
  | true=>
    have hf:(List.range m).findIdx? p=some i:=by
     rw [List.findIdx?_eq_some_iff_getElem]
     refine ⟨by simpa using hlt,by simpa using hp,fun j hj=>?_⟩
     have:=hpre j hj
     simpa using this
    simp +contextual +decide (maxSteps:=1000000) only [↓ wP,wQ,tf,Nat.reduceAdd,ne_eq,t0,t1,t7,t8,aY,aM,hf]
    exact bB (by omega) (fun id hid=>by rw [h2 id (by omega)];exact hoth id hid)
  | false=>
    simp +contextual +decide (maxSteps:=1000000) only [↓ wP,wQ,tf,Nat.reduceAdd,ne_eq,t0,t1,t7,t8,d5]
    exact ⟨i+1,by show _-_<_-_;omega,_,n',low',o',rfl,by simp +decide only [↓ aB,aD,aC,t0],by simp +decide only [↓ aB,aD,aC,t1],by simp +decide only [↓ aB,aD,aC,t7],by simp +decide only [↓ aB,aD,aC],hlt,fun j hj=>by
     rcases Nat.lt_succ_iff_lt_or_eq.1 hj with hj | rfl
     ·exact hpre j hj
     ·exact hp,by omega,fun id hid=>by rw [h2 id (by omega)];exact hoth id hid⟩
 ·have:i=m:=by omega
  subst this
  have d1:(((i:Nat):Int)<(i:Nat))=False:=eq_false (by omega)
  have hf:(List.range i).findIdx? p=none:=by
   rw [List.findIdx?_eq_none_iff]
   intro x hx
   exact hpre x (List.mem_range.1 hx)
  simp +contextual +decide (maxSteps:=1000000) only [↓ wP,wQ,tf,Nat.reduceAdd,ne_eq,t0,t1,t7,t8,d1,aY,aM,hf]
  exact bB hn hoth
theorem GC {O:bW} (ho:∀ a σ,O 144 a σ=none) (ho':∀ a σ,O 138 a σ=none) (g:FuncId) (cap:List AV) (a:AV) (xs:List AV) (ha:Sl a xs) (m:Nat) (hlen:xs.length=m) (c:Nat->List AV) (hix:∀ i,i<m->∀ {q:IntKind} {d:Option AV},fA (some 2) xs (.int q (i:Nat)) d=some (.pf (.agg (c i)))) (hcl:∀ i,i<m->(c i).length=2) (p:Nat->Bool) (s:Sto)
 (h:∀ i,i<m->∀ s',Sim s s'->RetS Tryz.prog O (.func (.func g) [] cap) [.agg (c i)] s' (.bool (p i))):RetS Tryz.prog O (.func (.func 138) [] []) [a,.func (.func g) [] cap] s (.bool ((List.range m).any p)):=by
 have hx:=fun s' hs=>QV ho g cap a xs ha m hlen c hix hcl p s' fun x hx s'' hs'=>h x hx s'' (Sim.trans (b:=s') hs hs')
 refine RetS.run (first:=[]) (args:=[a,.func (.func g) [] cap]) (cap:=[]) aQ (ho' _ _) (by kernel_rfl) Tryz.func138 Tryz.ntmps138 Tryz.results138 rfl rfl ?_
 obtain ⟨n0,low0,o0⟩:=s
 show Wk _ _ _ _ ⟨9,none,138,Tr.leaf.lay 0 [a,.func (.func g) [] cap],[],⟨n0,n0,o0⟩,.no⟩ _
 simp +contextual +decide (maxSteps:=1000000) only [↓ wP,wQ,tf,Nat.reduceAdd,ne_eq,ho,aO]
 refine bP (ho _ _) ((hx ⟨n0,n0,o0⟩ (bB (Nat.le_refl _) fun _ _=>rfl)).wcall fun so hso=>?_)
 rw [aJ]
 obtain ⟨n',low',o',e1,h1,h2⟩:=cS hso
 rw [e1]
 cases hf:(List.range m).findIdx? p with
 | none=>
   have hany:(List.range m).any p=false:=by
    rw [List.any_eq_false];intro x hx;have:=List.findIdx?_eq_none_iff.1 hf x hx;simp [this]
   simp +contextual +decide (maxSteps:=1000000) only [↓ wP,wQ,tf,Nat.reduceAdd,ne_eq,aY,aM,hany,show ((0:Int)<=-1)=False from eq_false (by omega)]
   exact bB h1 h2
 | some i=>
   have hany:(List.range m).any p=true:=by
    obtain ⟨h3,h4,_⟩:=List.findIdx?_eq_some_iff_getElem.1 hf
    rw [List.any_eq_true];exact ⟨_,List.getElem_mem h3,h4⟩
   simp +contextual +decide (maxSteps:=1000000) only [↓ wP,wQ,tf,Nat.reduceAdd,ne_eq,aY,aM,hany,show ((0:Int)<=(i:Nat))=True from eq_true (by omega)]
   exact bB h1 h2
theorem MR {O:bW} (ho1:∀ a σ,O 139 a σ=none) (g:FuncId) (cap:List AV) (cs:List AV) (hcs:cs.length=2) (hcc:cs.all AV.isCell=true) (b:Bool) (c:Nat) (s:Sto) (hc:s.get c=some (aX 0 [.func (.func g) [] cap]))
 (h:∀ s',Sim s s'->RetS Tryz.prog O (.func (.func g) [] cap) [.agg cs] s' (.bool b)):RetS Tryz.prog O (.func (.func 139) [] [.ptr c 0 0]) [.agg cs] s (.bool !b):=by
 refine RetS.run (first:=[]) (args:=[.agg cs]) (cap:=[.ptr c 0 0]) aQ (ho1 _ _) (by kernel_rfl) Tryz.func139 Tryz.ntmps139 Tryz.results139 rfl rfl ?_
 obtain ⟨n0,low0,o0⟩:=s
 have hcn:c<n0:=Sto.get_lt hc
 rw [Sto.get_mk hcn]at hc
 have f0:=bK hcn
 have hz:0+2<=cs.length:=by omega
 show Wk _ _ _ _ ⟨8,none,139,Tr.leaf.lay 0 [.agg cs,.ptr c 0 0],[],⟨n0,n0,o0⟩,.no⟩ _
 simp +contextual +decide (maxSteps:=1000000) only [↓ wP,wQ,tf,Nat.reduceAdd,ne_eq,hc,hcc,hcs,hz,f0,bC,show aG cs 0 2=cs from by unfold aG;rw [List.drop_zero,List.take_of_length_le (by omega)]]
 refine cP.1 ((h _ (bB (by omega) fun id hid=>by rw [Tr.get_set_ne _ _ (by omega)])).wcall fun so hso=>?_)
 rw [aJ]
 obtain ⟨n',low',o',e1,h1,h2⟩:=cS hso
 rw [e1]
 simp +contextual +decide (maxSteps:=1000000) only [↓ wP,wQ,tf,Nat.reduceAdd,ne_eq,aY,aM]
 exact bB (by omega) (fun id hid=>by rw [h2 id (by omega),Tr.get_set_ne _ _ (by omega)])
theorem QW {O:bW} (ho:∀ a σ,O 144 a σ=none) (ho':∀ a σ,O 138 a σ=none) (ho1:∀ a σ,O 139 a σ=none) (ho2:∀ a σ,O 106 a σ=none)
 (g:FuncId) (cap:List AV) (a:AV) (xs:List AV) (ha:Sl a xs) (m:Nat) (hlen:xs.length=m) (c:Nat->List AV) (hix:∀ i,i<m->∀ {q:IntKind} {d:Option AV},fA (some 2) xs (.int q (i:Nat)) d=some (.pf (.agg (c i)))) (hcl:∀ i,i<m->(c i).length=2) (hcc:∀ i,i<m->(c i).all AV.isCell=true) (p:Nat->Bool) (most:Nat) (s:Sto)
 (h:∀ i,i<m->∀ s',Sim s s'->RetS Tryz.prog O (.func (.func g) [] cap) [.agg (c i)] s' (.bool (p i))):RetS Tryz.prog O (.func (.func 106) [] []) [a,.int .i64 (most:Nat),.func (.func g) [] cap] s (.bool (decide (m<=most)&&(List.range m).all p)):=by
 refine RetS.run (first:=[]) (args:=[a,.int .i64 (most:Nat),.func (.func g) [] cap]) (cap:=[]) aQ (ho2 _ _) (by kernel_rfl) Tryz.func106 Tryz.ntmps106 Tryz.results106 rfl rfl ?_
 obtain ⟨n0,low0,o0⟩:=s
 show Wk _ _ _ _ ⟨17,none,106,Tr.leaf.lay 0 [a,.int .i64 (most:Nat),.func (.func g) [] cap],[],⟨n0,n0,o0⟩,.no⟩ _
 have d1:(((m:Nat):Int)<=(most:Nat))=(m<=most):=propext (by omega)
 by_cases hl:m<=most
 ·simp +contextual +decide (maxSteps:=1000000) only [↓ wP,wQ,tf,Nat.reduceAdd,ne_eq,ha.len,hlen,d1,hl,ho',aO]
  refine bP (ho' _ _) ((GC ho ho' 139 [.ptr n0 0 0] a xs ha m hlen c hix hcl (fun i=>!p i) ⟨n0+1,n0,o0.set n0 (aX 0 [.func (.func g) [] cap])⟩ fun i hi s' hs=>?_).wcall fun so hso=>?_)
  ·refine MR ho1 g cap (c i) (hcl i hi) (hcc i hi) (p i) n0 s' (hs.get ?_) fun s'' hs'=>h i hi s'' ?_
   ·rw [Sto.get_mk (by omega),Tr.get_set_same]
   ·exact (bB (by omega) fun id hid=>by rw [Tr.get_set_ne _ _ (by omega)]:Sim ⟨n0,low0,o0⟩ ⟨n0+1,n0,o0.set n0 (aX 0 [.func (.func g) [] cap])⟩).trans (hs.trans hs')
  ·rw [aJ]
   obtain ⟨n',low',o',e1,h1,h2⟩:=cS hso
   rw [e1]
   have hany:((List.range m).any fun x=>!p x) = !(List.range m).all p:=by rw [<-List.not_all_eq_any_not]
   rw [hany]
   simp +contextual +decide (maxSteps:=1000000) only [↓ wP,wQ,tf,Nat.reduceAdd,ne_eq,aY,aM,Bool.not_not]
   exact bB (by omega) (fun id hid=>by rw [h2 id (by omega),Tr.get_set_ne _ _ (by omega)])
 ·simp +contextual +decide (maxSteps:=1000000) only [↓ wP,wQ,tf,Nat.reduceAdd,ne_eq,ha.len,hlen,d1,hl,aY,aM]
  exact ⟨by simp,bB (by omega) (fun id hid=>by rw [Tr.get_set_ne _ _ (by omega)])⟩
theorem QX {O:bW} (ho:∀ a σ,O 143 a σ=none) (g:FuncId) (cap:List AV) (a:AV) (xs:List AV) (ha:Sl a xs) (m:Nat) (hlen:xs.length=m) (c:Nat->AV) (hix:∀ i,i<m->∀ {q:IntKind} {d:Option AV},fA (some 1) xs (.int q (i:Nat)) d=some (.pf (c i))) (hcl:∀ i,i<m->(c i).isCell=true) (p:Nat->Bool) (s:Sto)
 (h:∀ i,i<m->∀ s',Sim s s'->RetS Tryz.prog O (.func (.func g) [] cap) [c i] s' (.bool (p i))):RetS Tryz.prog O (.func (.func 143) [] []) [a,.func (.func g) [] cap] s (.int .i64 (match (List.range m).findIdx? p with | some i=>((i:Nat):Int) | none=>-1)):=by
 have hll:=ha.2
 refine RetS.run (first:=[]) (args:=[a,.func (.func g) [] cap]) (cap:=[]) aQ (ho _ _) (by kernel_rfl) Tryz.func143 Tryz.ntmps143 Tryz.results143 rfl rfl ?_
 obtain ⟨n0,low0,o0⟩:=s
 show Wk _ _ _ _ ⟨19,none,143,Tr.leaf.lay 0 [a,.func (.func g) [] cap],[],⟨n0,n0,o0⟩,.no⟩ _
 simp +contextual +decide (maxSteps:=1000000) only [↓ wP,wQ,tf,Nat.reduceAdd,ne_eq,ha.len,hlen]
 refine bU (fun i e=>∃ t n low o,e=⟨19,none,143,t,[],⟨n,low,o⟩,.no⟩/\t.val 0=a/\t.val 1=.func (.func g) [] cap/\t.val 7=.int .i64 (m:Nat)/\t.val 8=.int .i64 (i:Nat)/\i<=m/\(∀ j,j<i->p j=false)/\n0<=n/\∀ id,id<n0->o.get id=o0.get id) (fun i=>m-i) 0
  ⟨_,n0,n0,o0,rfl,by simp +decide only [↓ aB,aD,aC],by simp +decide only [↓ aB,aD,aC],by simp +decide only [↓ aB,aD,aC],by simp +decide only [↓ aB,aD,aC];rfl,Nat.zero_le _,fun j hj=>by omega,Nat.le_refl _,fun _ _=>rfl⟩ ?_
 rintro i _ ⟨t,n,low,o,rfl,t0,t1,t7,t8,hi,hpre,hn,hoth⟩
 by_cases hlt:i<m
 ·have d1:((i:Int)<(m:Nat))=True:=eq_true (by omega)
  have d5:=aW (i:=i) (by omega)
  have x1:=fun {q d}=>hix i hlt (q:=q) (d:=d)
  have x2:=hcl i hlt
  have x3:=h i hlt
  generalize c i=cs at *
  simp +contextual +decide (maxSteps:=1000000) only [↓ wP,wQ,tf,Nat.reduceAdd,ne_eq,ha.idx,t0,t1,t7,t8,d1,x1,x2]
  refine cP.1 ((x3 ⟨n,low,o⟩ (bB (low:=low0) hn hoth)).wcall fun so hso=>?_)
  rw [aJ]
  obtain ⟨n',low',o',e1,h1,h2⟩:=cS hso
  rw [e1]
  cases hp:p i with
  | true=>
    have hf:(List.range m).findIdx? p=some i:=by
     rw [List.findIdx?_eq_some_iff_getElem]
     refine ⟨by simpa using hlt,by simpa using hp,fun j hj=>?_⟩
     have:=hpre j hj
     simpa using this
    simp +contextual +decide (maxSteps:=1000000) only [↓ wP,wQ,tf,Nat.reduceAdd,ne_eq,t0,t1,t7,t8,aY,aM,hf]
    exact bB (by omega) (fun id hid=>by rw [h2 id (by omega)];exact hoth id hid)
  | false=>
    simp +contextual +decide (maxSteps:=1000000) only [↓ wP,wQ,tf,Nat.reduceAdd,ne_eq,t0,t1,t7,t8,d5]
    exact ⟨i+1,by show _-_<_-_;omega,_,n',low',o',rfl,by simp +decide only [↓ aB,aD,aC,t0],by simp +decide only [↓ aB,aD,aC,t1],by simp +decide only [↓ aB,aD,aC,t7],by simp +decide only [↓ aB,aD,aC],hlt,fun j hj=>by
     rcases Nat.lt_succ_iff_lt_or_eq.1 hj with hj | rfl
     ·exact hpre j hj
     ·exact hp,by omega,fun id hid=>by rw [h2 id (by omega)];exact hoth id hid⟩
 ·have:i=m:=by omega
  subst this
  have d1:(((i:Nat):Int)<(i:Nat))=False:=eq_false (by omega)
  have hf:(List.range i).findIdx? p=none:=by
   rw [List.findIdx?_eq_none_iff]
   intro x hx
   exact hpre x (List.mem_range.1 hx)
  simp +contextual +decide (maxSteps:=1000000) only [↓ wP,wQ,tf,Nat.reduceAdd,ne_eq,t0,t1,t7,t8,d1,aY,aM,hf]
  exact bB hn hoth
theorem GD {O:bW} (ho:∀ a σ,O 143 a σ=none) (ho':∀ a σ,O 136 a σ=none) (g:FuncId) (cap:List AV) (a:AV) (xs:List AV) (ha:Sl a xs) (m:Nat) (hlen:xs.length=m) (c:Nat->AV) (hix:∀ i,i<m->∀ {q:IntKind} {d:Option AV},fA (some 1) xs (.int q (i:Nat)) d=some (.pf (c i))) (hcl:∀ i,i<m->(c i).isCell=true) (p:Nat->Bool) (s:Sto)
 (h:∀ i,i<m->∀ s',Sim s s'->RetS Tryz.prog O (.func (.func g) [] cap) [c i] s' (.bool (p i))):RetS Tryz.prog O (.func (.func 136) [] []) [a,.func (.func g) [] cap] s (.bool ((List.range m).any p)):=by
 have hx:=fun s' hs=>QX ho g cap a xs ha m hlen c hix hcl p s' fun x hx s'' hs'=>h x hx s'' (Sim.trans (b:=s') hs hs')
 refine RetS.run (first:=[]) (args:=[a,.func (.func g) [] cap]) (cap:=[]) aQ (ho' _ _) (by kernel_rfl) Tryz.func136 Tryz.ntmps136 Tryz.results136 rfl rfl ?_
 obtain ⟨n0,low0,o0⟩:=s
 show Wk _ _ _ _ ⟨9,none,136,Tr.leaf.lay 0 [a,.func (.func g) [] cap],[],⟨n0,n0,o0⟩,.no⟩ _
 simp +contextual +decide (maxSteps:=1000000) only [↓ wP,wQ,tf,Nat.reduceAdd,ne_eq,ho,aO]
 refine bP (ho _ _) ((hx ⟨n0,n0,o0⟩ (bB (Nat.le_refl _) fun _ _=>rfl)).wcall fun so hso=>?_)
 rw [aJ]
 obtain ⟨n',low',o',e1,h1,h2⟩:=cS hso
 rw [e1]
 cases hf:(List.range m).findIdx? p with
 | none=>
   have hany:(List.range m).any p=false:=by
    rw [List.any_eq_false];intro x hx;have:=List.findIdx?_eq_none_iff.1 hf x hx;simp [this]
   simp +contextual +decide (maxSteps:=1000000) only [↓ wP,wQ,tf,Nat.reduceAdd,ne_eq,aY,aM,hany,show ((0:Int)<=-1)=False from eq_false (by omega)]
   exact bB h1 h2
 | some i=>
   have hany:(List.range m).any p=true:=by
    obtain ⟨h3,h4,_⟩:=List.findIdx?_eq_some_iff_getElem.1 hf
    rw [List.any_eq_true];exact ⟨_,List.getElem_mem h3,h4⟩
   simp +contextual +decide (maxSteps:=1000000) only [↓ wP,wQ,tf,Nat.reduceAdd,ne_eq,aY,aM,hany,show ((0:Int)<=(i:Nat))=True from eq_true (by omega)]
   exact bB h1 h2
theorem MS {O:bW} (ho1:∀ a σ,O 137 a σ=none) (g:FuncId) (cap:List AV) (cs:AV) (b:Bool) (c:Nat) (s:Sto) (hc:s.get c=some (aX 0 [.func (.func g) [] cap]))
 (h:∀ s',Sim s s'->RetS Tryz.prog O (.func (.func g) [] cap) [cs] s' (.bool b)):RetS Tryz.prog O (.func (.func 137) [] [.ptr c 0 0]) [cs] s (.bool !b):=by
 refine RetS.run (first:=[]) (args:=[cs]) (cap:=[.ptr c 0 0]) aQ (ho1 _ _) (by kernel_rfl) Tryz.func137 Tryz.ntmps137 Tryz.results137 rfl rfl ?_
 obtain ⟨n0,low0,o0⟩:=s
 have hcn:c<n0:=Sto.get_lt hc
 rw [Sto.get_mk hcn]at hc
 have f0:=bK hcn
 show Wk _ _ _ _ ⟨8,none,137,Tr.leaf.lay 0 [cs,.ptr c 0 0],[],⟨n0,n0,o0⟩,.no⟩ _
 simp +contextual +decide (maxSteps:=1000000) only [↓ wP,wQ,tf,Nat.reduceAdd,ne_eq,hc,f0,bC]
 refine cP.1 ((h _ (bB (by omega) fun id hid=>rfl)).wcall fun so hso=>?_)
 rw [aJ]
 obtain ⟨n',low',o',e1,h1,h2⟩:=cS hso
 rw [e1]
 simp +contextual +decide (maxSteps:=1000000) only [↓ wP,wQ,tf,Nat.reduceAdd,ne_eq,aY,aM]
 exact bB (by omega) h2
theorem DA {O:bW} (ho:∀ a σ,O 143 a σ=none) (ho':∀ a σ,O 136 a σ=none) (ho1:∀ a σ,O 137 a σ=none) (ho2:∀ a σ,O 105 a σ=none)
 (g:FuncId) (cap:List AV) (a:AV) (xs:List AV) (ha:Sl a xs) (m:Nat) (hlen:xs.length=m) (c:Nat->AV) (hix:∀ i,i<m->∀ {q:IntKind} {d:Option AV},fA (some 1) xs (.int q (i:Nat)) d=some (.pf (c i))) (hcl:∀ i,i<m->(c i).isCell=true) (p:Nat->Bool) (most:Nat) (s:Sto)
 (h:∀ i,i<m->∀ s',Sim s s'->RetS Tryz.prog O (.func (.func g) [] cap) [c i] s' (.bool (p i))):RetS Tryz.prog O (.func (.func 105) [] []) [a,.int .i64 (most:Nat),.func (.func g) [] cap] s (.bool (decide (m<=most)&&(List.range m).all p)):=by
 refine RetS.run (first:=[]) (args:=[a,.int .i64 (most:Nat),.func (.func g) [] cap]) (cap:=[]) aQ (ho2 _ _) (by kernel_rfl) Tryz.func105 Tryz.ntmps105 Tryz.results105 rfl rfl ?_
 obtain ⟨n0,low0,o0⟩:=s
 show Wk _ _ _ _ ⟨17,none,105,Tr.leaf.lay 0 [a,.int .i64 (most:Nat),.func (.func g) [] cap],[],⟨n0,n0,o0⟩,.no⟩ _
 have d1:(((m:Nat):Int)<=(most:Nat))=(m<=most):=propext (by omega)
 by_cases hl:m<=most
 ·simp +contextual +decide (maxSteps:=1000000) only [↓ wP,wQ,tf,Nat.reduceAdd,ne_eq,ha.len,hlen,d1,hl,ho',aO]
  refine bP (ho' _ _) ((GD ho ho' 137 [.ptr n0 0 0] a xs ha m hlen c hix hcl (fun i=>!p i) ⟨n0+1,n0,o0.set n0 (aX 0 [.func (.func g) [] cap])⟩ fun i hi s' hs=>?_).wcall fun so hso=>?_)
  ·refine MS ho1 g cap (c i) (p i) n0 s' (hs.get ?_) fun s'' hs'=>h i hi s'' ?_
   ·rw [Sto.get_mk (by omega),Tr.get_set_same]
   ·exact (bB (by omega) fun id hid=>by rw [Tr.get_set_ne _ _ (by omega)]:Sim ⟨n0,low0,o0⟩ ⟨n0+1,n0,o0.set n0 (aX 0 [.func (.func g) [] cap])⟩).trans (hs.trans hs')
  ·rw [aJ]
   obtain ⟨n',low',o',e1,h1,h2⟩:=cS hso
   rw [e1]
   have hany:((List.range m).any fun x=>!p x) = !(List.range m).all p:=by rw [<-List.not_all_eq_any_not]
   rw [hany]
   simp +contextual +decide (maxSteps:=1000000) only [↓ wP,wQ,tf,Nat.reduceAdd,ne_eq,aY,aM,Bool.not_not]
   exact bB (by omega) (fun id hid=>by rw [h2 id (by omega),Tr.get_set_ne _ _ (by omega)])
 ·simp +contextual +decide (maxSteps:=1000000) only [↓ wP,wQ,tf,Nat.reduceAdd,ne_eq,ha.len,hlen,d1,hl,aY,aM]
  exact ⟨by simp,bB (by omega) (fun id hid=>by rw [Tr.get_set_ne _ _ (by omega)])⟩
end
end Go.Proofs.YtajngkkihadgfaaGreat
/-
 The reference of images: worlds that can be stored.
-/
namespace Go.Proofs.YtajngkkihadgfaaGreat
open Go.Abs Go Go.Abs.TryzF
noncomputable section
set_option maxRecDepth 10000
def BL:List AV->Option AV
 | [a]=>(jE a).map fun w=>.bool (sO w)
 | _=>none
theorem QY {a:AV} {w:Wd} (h:jE a=some w):BL [a]=some (.bool (sO w)):=by simp [BL,h]
theorem DB {w:Wd}:sO w=true↔w.objs.length<=120/\w.tasks.length<=120/\w.outs.length<=100/\w.ins.length<=50/\jI w.used 0 1073741824=true/\
 w.objs.all (wR w.objs.length)=true/\w.tasks.all (fun t=>jI t 0 ((w.objs.length:Int)-1))=true/\w.outs.all lI=true/\w.ins.all dP=true:=by
 simp only [sO,Bool.and_eq_true,decide_eq_true_eq,and_assoc]
theorem wT {w:Wd} (h:¬ (w.objs.length<=120/\w.tasks.length<=120/\w.outs.length<=100/\w.ins.length<=50/\jI w.used 0 1073741824=true/\
 w.objs.all (wR w.objs.length)=true/\w.tasks.all (fun t=>jI t 0 ((w.objs.length:Int)-1))=true/\w.outs.all lI=true/\w.ins.all dP=true)):sO w=false:=by
 cases hk:sO w with
 | false=>rfl
 | true=>exact absurd (DB.1 hk) h
theorem wU {α:Type} {l:List α} {i:Nat} {d:α} (h:i<l.length):l.getD i d∈l:=by rw [bI h];exact List.getElem_mem _
end
end Go.Proofs.YtajngkkihadgfaaGreat
/-
 The program of images: worlds that can be stored.
-/
namespace Go.Proofs.YtajngkkihadgfaaGreat
open Go.Abs Go Go.Abs.TryzF
noncomputable section
set_option maxRecDepth 10000
theorem aCd {O:bW} (ho:∀ a σ,O 132 a σ=none) (n:Int) (c:Nat) (x:eK) (s:Sto) (hc:s.get c=some (aX 0 [.int .i64 n])):RetS Tryz.prog O (.func (.func 132) [] [.ptr c 0 0]) [eH x] s (.bool (nW n x)):=by
 refine RetS.run (first:=[]) (args:=[eH x]) (cap:=[.ptr c 0 0]) aQ (ho _ _) (by kernel_rfl) Tryz.func132 Tryz.ntmps132 Tryz.results132 rfl rfl ?_
 obtain ⟨n0,low0,o0⟩:=s
 have hcn:c<n0:=Sto.get_lt hc
 rw [Sto.get_mk hcn]at hc
 have f0:=bK hcn
 obtain ⟨k,m⟩:=x
 show Wk _ _ _ _ ⟨13,none,132,Tr.leaf.lay 0 [.agg [.int .i64 k,.int .i64 m],.ptr c 0 0],[],⟨n0,n0,o0⟩,.no⟩ _
 by_cases h5:k=5
 ·by_cases hm:m<n
  ·simp +contextual +decide (maxSteps:=1000000) only [↓ wP,wQ,tf,Nat.reduceAdd,ne_eq,hc,f0,bC,h5,hm,aY,aM]
   refine ⟨?_,bB (by omega) fun id hid=>by rw [Tr.get_set_ne _ _ (by omega)]⟩
   simp only [nW,decide_eq_true h5,decide_eq_false (show ¬ n<=m by omega)];rfl
  ·simp +contextual +decide (maxSteps:=1000000) only [↓ wP,wQ,tf,Nat.reduceAdd,ne_eq,hc,f0,bC,h5,hm,aY,aM]
   refine ⟨?_,bB (by omega) fun id hid=>by rw [Tr.get_set_ne _ _ (by omega)]⟩
   simp only [nW,decide_eq_true h5,decide_eq_true (show n<=m by omega)];rfl
 ·simp +contextual +decide (maxSteps:=1000000) only [↓ wP,wQ,tf,Nat.reduceAdd,ne_eq,hc,f0,bC,h5,aY,aM]
  refine ⟨?_,bB (by omega) fun id hid=>by rw [Tr.get_set_ne _ _ (by omega)]⟩
  simp only [nW,decide_eq_false h5];rfl
def pR (n:Int) (l:List eK):Bool:=decide (l.length<=30)&&zA n l
def AG (n:Int) (f:Fr):Bool:=pR n f.env&&pR n f.vals
def DC (n:Int) (o:Ob):Bool:=pR n o.vals&&(decide (o.frs.length<=40)&&o.frs.all (AG n))
theorem MT {n:Int} {o:Ob} (h:iS o=true):DC n o=kL n o:=by
 obtain ⟨_,_,h3,h4,h5⟩:=xA h
 have e1:pR n o.vals=zA n o.vals:=by rw [pR,decide_eq_true (oF h3).1];rfl
 have e2:o.frs.all (AG n)=o.frs.all (QR n):=by
  have:∀ l:List Fr,(∀ f∈l,oE f=true)->l.all (AG n)=l.all (QR n):=by
   intro l
   induction l with
   | nil=>intro _;rfl
   | cons f l ih=>
     intro hl
     obtain ⟨_,_,g1,g2⟩:=DS (hl f (List.mem_cons_self ..))
     rw [List.all_cons,List.all_cons,ih fun g hg=>hl g (List.mem_cons_of_mem _ hg)]
     congr 1
     rw [AG,QR,pR,pR,decide_eq_true (oF g1).1,decide_eq_true (oF g2).1];rfl
  exact this _ h5
 rw [DC,kL,e1,e2,decide_eq_true h4,Bool.true_and,Bool.and_comm]
abbrev ONr (O:bW):Prop:=(∀ a σ,O 140 a σ=none)/\(∀ a σ,O 126 a σ=none)/\(∀ a σ,O 127 a σ=none)/\(∀ a σ,O 79 a σ=none)/\(∀ a σ,O 132 a σ=none)
theorem zC {O:bW} (ho:ONr O) (n:Int) (c:Nat) (a:AV) (l:List eK) (h:cB a=some l) (s:Sto) (hc:s.get c=some (aX 0 [.int .i64 n])):
 RetS Tryz.prog O (.func (.func 79) [] []) [a,.int .i64 30,.func (.func 132) [] [.ptr c 0 0]] s (.bool (pR n l)):=
 everyVals ho.1 ho.2.1 ho.2.2.1 ho.2.2.2.1 132 [.ptr c 0 0] a l (eA h) (nW n) 30 s fun x _ s' hs=>aCd ho.2.2.2.2 n c x s' (hs.get hc)
theorem XE {O:bW} (ho:ONr O) (ho':∀ a σ,O 133 a σ=none) (n:Int) (c d:Nat) (cs:List AV) (f:Fr) (hf:mL (.agg cs)=some f) (s:Sto) (hc:s.get c=some (aX 0 [.int .i64 n])) (hd:s.get d=some (aX 0 [.func (.func 132) [] [.ptr c 0 0]])):
 RetS Tryz.prog O (.func (.func 133) [] [.ptr d 0 0]) [.agg cs] s (.bool (AG n f)):=by
 obtain ⟨e,v,he0,he,hv⟩:=iB hf
 cases he0
 have ce:=bN he
 have cv:=bN hv
 refine RetS.run (first:=[]) (args:=[.agg [.int .i64 f.node,e,v]]) (cap:=[.ptr d 0 0]) aQ (ho' _ _) (by kernel_rfl) Tryz.func133 Tryz.ntmps133 Tryz.results133 rfl rfl ?_
 have hc0:=hc
 have hd0:=hd
 obtain ⟨n0,low0,o0⟩:=s
 have hcn:c<n0:=Sto.get_lt hc
 have hdn:d<n0:=Sto.get_lt hd
 rw [Sto.get_mk hcn]at hc
 rw [Sto.get_mk hdn]at hd
 have f0:=bK hcn
 have f1:=bK hdn
 show Wk _ _ _ _ ⟨14,none,133,Tr.leaf.lay 0 [.agg [.int .i64 f.node,e,v],.ptr d 0 0],[],⟨n0,n0,o0⟩,.no⟩ _
 simp +contextual +decide (maxSteps:=1000000) only [↓ wP,wQ,tf,Nat.reduceAdd,ne_eq,hd,f1,bC,ce,cv,ho.2.2.2.1,aO]
 refine bP (ho.2.2.2.1 _ _) ((zC ho n c e f.env he _ (by rw [Sto.get_mk (by omega),Tr.get_set_ne _ _ (by omega)];exact hc)).wcall fun so hso=>?_)
 rw [aJ]
 obtain ⟨n1,low1,o1,e1,h1,h2⟩:=cS hso
 rw [e1]
 have g0:o1.get n0=some (aX 0 [.int .i64 f.node,e,v]):=by rw [h2 n0 (by omega),Tr.get_set_same]
 have gc:o1.get c=some (aX 0 [.int .i64 n]):=by rw [h2 c (by omega),Tr.get_set_ne _ _ (by omega)];exact hc
 have gd:o1.get d=some (aX 0 [.func (.func 132) [] [.ptr c 0 0]]):=by rw [h2 d (by omega),Tr.get_set_ne _ _ (by omega)];exact hd
 have f2:=bK (show n0<n1 by omega)
 have f3:=bK (show d<n1 by omega)
 cases k1:pR n f.env with
 | false=>
   simp +contextual +decide (maxSteps:=1000000) only [↓ wP,wQ,tf,Nat.reduceAdd,ne_eq,aY,aM]
   refine ⟨by rw [AG,k1];rfl,bB (by omega) fun id hid=>by rw [h2 id (by omega),Tr.get_set_ne _ _ (by omega)]⟩
 | true=>
   simp +contextual +decide (maxSteps:=1000000) only [↓ wP,wQ,tf,Nat.reduceAdd,ne_eq,g0,gd,f2,f3,ce,cv,ho.2.2.2.1,aO]
   refine bP (ho.2.2.2.1 _ _) ((zC ho n c v f.vals hv _ (by rw [Sto.get_mk (by omega)];exact gc)).wcall fun so hso=>?_)
   rw [aJ]
   obtain ⟨n2,low2,o2,e2,h3,h4⟩:=cS hso
   rw [e2]
   simp +contextual +decide (maxSteps:=1000000) only [↓ wP,wQ,tf,Nat.reduceAdd,ne_eq,aY,aM]
   refine ⟨by rw [AG,k1];rfl,bB (by omega) fun id hid=>by rw [h4 id (by omega),h2 id (by omega),Tr.get_set_ne _ _ (by omega)]⟩
def lN:List AV->Option AV
 | [a,.int .i64 n]=>(eD a).map fun o=>.bool (DC n o)
 | _=>none
theorem uY {a:AV} {o:Ob} {n:Int} (h:eD a=some o):lN [a,.int .i64 n]=some (.bool (DC n o)):=by simp [lN,h]
theorem referring_ok:Abs.Ok Tryz.prog 101 lN:=by
 intro args v hg
 unfold lN at hg
 split at hg
 rotate_left
 ·cases hg
 rename_i a n
 obtain ⟨o,ho,rfl⟩:=Option.map_eq_some_iff.1 hg
 have hund:=(qI ho).und
 obtain ⟨vs,fs,rfl,hvs,hfs⟩:=iC ho
 have c1:=bN hvs
 have c2:=fO hfs
 refine bJ (L:=[]) aR aQ (by kernel_rfl) Tryz.func101 Tryz.ntmps101 Tryz.results101 rfl rfl (aE hund (aE aU aH)) dG ?_
 have hON:ONr (orcL []):=⟨fun _ _=>rfl,fun _ _=>rfl,fun _ _=>rfl,fun _ _=>rfl,fun _ _=>rfl⟩
 simp +contextual +decide (maxSteps:=1000000) only [↓ wP,wQ,tf,Nat.reduceAdd,ne_eq,c1,c2,hON.2.2.2.1,aO]
 refine bP rfl ((zC hON n 1 vs o.vals hvs _ (by simp +contextual +decide (maxSteps:=1000000) only [↓ wP,wQ,tf,Nat.reduceAdd,ne_eq])).wcall fun so hso=>?_)
 rw [aJ]
 obtain ⟨n1,low1,o1,e1,h1,h2⟩:=cS hso
 rw [e1]
 have g0:o1.get 0=some (aX 0 [.int .i64 o.form,.int .i64 o.n,vs,fs]):=by rw [h2 0 (by omega)];simp [Tr.get_set]
 have g1:o1.get 1=some (aX 0 [.int .i64 n]):=by rw [h2 1 (by omega)];simp [Tr.get_set]
 have g2:o1.get 2=some (aX 0 [.func (.func 132) [] [.ptr 1 0 0]]):=by rw [h2 2 (by omega)];simp [Tr.get_set]
 have f0:=bK (show 0<n1 by omega)
 cases k1:pR n o.vals with
 | false=>
   simp +contextual +decide (maxSteps:=1000000) only [↓ wP,wQ,tf,Nat.reduceAdd,ne_eq]
   rw [DC,k1];rfl
 | true=>
   obtain ⟨xs,c,q1,q2,q3⟩:=zG hfs
   simp +contextual +decide (maxSteps:=1000000) only [↓ wP,wQ,tf,Nat.reduceAdd,ne_eq,g0,f0,c1,c2,show ∀ a σ,orcL [] 81 a σ=none from fun _ _=>rfl,aO]
   have:=DM (O:=orcL []) (fun _ _=>rfl) (fun _ _=>rfl) (fun _ _=>rfl) (fun _ _=>rfl) 133 [.ptr 2 0 0] fs xs q1 o.frs.length q2 c (fun i hi {q d}=>(q3 i hi).1) (fun i hi=>(q3 i hi).2.1) (fun i hi=>(q3 i hi).2.2.1) (fun i=>AG n (o.frs.getD i default)) 40 ⟨n1,low1,o1⟩ (fun i hi s' hs=>XE hON (fun _ _=>rfl) n 1 2 (c i) _ (q3 i hi).2.2.2 s' (hs.get (by rw [Sto.get_mk (by omega)];exact g1)) (hs.get (by rw [Sto.get_mk (by omega)];exact g2)))
   rw [lO]at this
   refine bP rfl (this.wcall fun so hso=>?_)
   rw [aJ]
   obtain ⟨n2,low2,o2,e2,h3,h4⟩:=cS hso
   rw [e2]
   simp +contextual +decide (maxSteps:=1000000) only [↓ wP,wQ,tf,Nat.reduceAdd,ne_eq]
   rw [DC,k1];rfl
abbrev LSt:List jK:=[ent 77 inV,ent 78 nL,ent 36 nM,ent 101 lN]
theorem aHm (n:Int) (c:Nat) (cs:List AV) (o:Ob) (hl:cs.length=4) (hcc:cs.all AV.isCell=true) (ho:eD (.agg cs)=some o) (s:Sto) (hc:s.get c=some (aX 0 [.int .i64 n])):RetS Tryz.prog (orcL LSt) (.func (.func 100) [] [.ptr c 0 0]) [.agg cs] s (.bool (wR n o)):=by
 refine RetS.run (first:=[]) (args:=[.agg cs]) (cap:=[.ptr c 0 0]) aQ rfl (by kernel_rfl) Tryz.func100 Tryz.ntmps100 Tryz.results100 rfl rfl ?_
 obtain ⟨n0,low0,o0⟩:=s
 have hcn:c<n0:=Sto.get_lt hc
 rw [Sto.get_mk hcn]at hc
 have f0:=bK hcn
 have e1:=wZ ho
 have e2:=uY (n:=n) ho
 have hz:0+4<=cs.length:=by omega
 have hls:aG cs 0 4=cs:=by unfold aG;rw [List.drop_zero,List.take_of_length_le (by omega)]
 show Wk _ _ _ _ ⟨11,none,100,Tr.leaf.lay 0 [.agg cs,.ptr c 0 0],[],⟨n0,n0,o0⟩,.no⟩ _
 cases k1:iS o with
 | false=>
   simp +contextual +decide (maxSteps:=1000000) only [↓ wP,wQ,tf,Nat.reduceAdd,ne_eq,hc,hl,hcc,hz,hls,f0,bC,e1,k1,aY,aM]
   refine ⟨by rw [wR,k1];rfl,bB (by omega) fun id hid=>by rw [Tr.get_set_ne _ _ (by omega)]⟩
 | true=>
   simp +contextual +decide (maxSteps:=1000000) only [↓ wP,wQ,tf,Nat.reduceAdd,ne_eq,hc,hl,hcc,hz,hls,f0,bC,e1,e2,k1,aY,aM]
   refine ⟨by rw [wR,k1,MT k1];rfl,bB (by omega) fun id hid=>by rw [Tr.get_set_ne _ _ (by omega)]⟩
theorem aHn (n:Int) (c:Nat) (x:Int) (s:Sto) (hn:0<=n/\n<=9223372036854775807) (hc:s.get c=some (aX 0 [.int .i64 n])):RetS Tryz.prog (orcL LSt) (.func (.func 102) [] [.ptr c 0 0]) [mV x] s (.bool (jI x 0 (n-1))):=by
 refine RetS.run (first:=[]) (args:=[mV x]) (cap:=[.ptr c 0 0]) aQ rfl (by kernel_rfl) Tryz.func102 Tryz.ntmps102 Tryz.results102 rfl rfl ?_
 obtain ⟨n0,low0,o0⟩:=s
 have hcn:c<n0:=Sto.get_lt hc
 rw [Sto.get_mk hcn]at hc
 have f0:=bK hcn
 have e1:IntKind.i64.wrap (n-1)=n-1:=IntWalk.i64_in _ (by omega)
 show Wk _ _ _ _ ⟨8,none,102,Tr.leaf.lay 0 [.int .i64 x,.ptr c 0 0],[],⟨n0,n0,o0⟩,.no⟩ _
 simp +contextual +decide (maxSteps:=1000000) only [↓ wP,wQ,tf,Nat.reduceAdd,ne_eq,hc,f0,bC,e1,jX,aY,aM]
 exact bB (by omega) fun id hid=>rfl
theorem aHo (x:eK) (s:Sto):RetS Tryz.prog (orcL LSt) (.func (.func 103) [] []) [eH x] s (.bool (lI x)):=by
 refine RetS.run (first:=[]) (args:=[eH x]) (cap:=[]) aQ rfl (by kernel_rfl) Tryz.func103 Tryz.ntmps103 Tryz.results103 rfl rfl ?_
 obtain ⟨n0,low0,o0⟩:=s
 obtain ⟨k,m⟩:=x
 show Wk _ _ _ _ ⟨11,none,103,Tr.leaf.lay 0 [.agg [.int .i64 k,.int .i64 m]],[],⟨n0,n0,o0⟩,.no⟩ _
 cases k1:dP k with
 | false=>
   simp +contextual +decide (maxSteps:=1000000) only [↓ wP,wQ,tf,Nat.reduceAdd,ne_eq,bC,eG,k1,aY,aM]
   refine ⟨by simp only [lI,k1];rfl,bB (by omega) fun id hid=>by rw [Tr.get_set_ne _ _ (by omega)]⟩
 | true=>
   simp +contextual +decide (maxSteps:=1000000) only [↓ wP,wQ,tf,Nat.reduceAdd,ne_eq,bC,eG,k1,aY,aM]
   refine ⟨by simp only [lI,k1];rfl,bB (by omega) fun id hid=>by rw [Tr.get_set_ne _ _ (by omega)]⟩
theorem DD {a:AV} {l:List eK} (h:cB a=some l):∀ i,i<l.length->∀ {q:IntKind} {d:Option AV},fA (some 2) (l.map eH) (.int q (i:Nat)) d=some (.pf (.agg (gZ (l.getD i default)))):=fun i hi {q d}=>aMa l hi
theorem jT {l:List Int}:∀ i,i<l.length->∀ {q:IntKind} {d:Option AV},fA (some 1) (l.map mV) (.int q (i:Nat)) d=some (.pf (mV (l.getD i default))):=fun i hi {q d}=>NT aDm (by omega) (by omega)
set_option maxHeartbeats 2000000 in
theorem stored_ok:Abs.Ok Tryz.prog 45 BL:=by
 intro args v hg
 match args,hg with
 | [a],hg=>
   obtain ⟨w,hw,rfl⟩:=Option.map_eq_some_iff.1 hg
   have hund:=(wS hw).und
   obtain ⟨os,ts,us,is,rfl,h1,h2,h3,h4,c1,c2,c3,c4⟩:=sW hw
   obtain ⟨xs,c,hsl,hlen,hat⟩:=tZ h1
   have s2:=gW h2
   have s3:=eA h3
   have s4:=gW h4
   have hll:=hsl.2
   refine bJ (L:=LSt) (elist_cons iIn_ok.ent (elist_cons iNumber_ok.ent (elist_cons formed_ok.ent (elist_cons referring_ok.ent aR)))) aQ (by kernel_rfl) Tryz.func45 Tryz.ntmps45 Tryz.results45 rfl rfl (aE hund aH) dG ?_
   have hO:∀ a σ,orcL LSt 104 a σ=none:=fun _ _=>rfl
   have hI:∀ a σ,orcL LSt 105 a σ=none:=fun _ _=>rfl
   have hU:∀ a σ,orcL LSt 106 a σ=none:=fun _ _=>rfl
   simp +contextual +decide (maxSteps:=1000000) only [↓ wP,wQ,tf,Nat.reduceAdd,ne_eq,c1,c2,c3,c4,hsl.len,hlen,hO,aO]
   have r1:=fun (s:Sto) (hs:s.get 1=some (aX 0 [.int .i64 (w.objs.length:Nat)]))=>QU (O:=orcL LSt) (fun _ _=>rfl) (fun _ _=>rfl) (fun _ _=>rfl) hO 100 [.ptr 1 0 0] os xs hsl w.objs.length hlen c (fun i hi {q d}=>(hat i hi).1) (fun i hi=>(hat i hi).2.1) (fun i hi=>(hat i hi).2.2.1) (fun i=>wR w.objs.length (w.objs.getD i default)) 120 s
    (fun i hi s' hs'=>aHm w.objs.length 1 (c i) _ (hat i hi).2.1 (hat i hi).2.2.1 (hat i hi).2.2.2 s' (hs'.get hs))
   refine bP rfl ((r1 _ (by simp +contextual +decide (maxSteps:=1000000) only [↓ wP,wQ,tf,Nat.reduceAdd,ne_eq])).wcall fun so hso=>?_)
   rw [lO,aJ]
   obtain ⟨n1,low1,o1,e1,h5,h6⟩:=cS hso
   rw [e1]
   clear e1 hso
   have g0:o1.get 0=some (aX 0 [os,ts,us,is,.int .i64 w.used]):=by rw [h6 0 (by omega)];simp [Tr.get_set]
   have g1:o1.get 1=some (aX 0 [.int .i64 (w.objs.length:Nat)]):=by rw [h6 1 (by omega)];simp [Tr.get_set]
   have f0:=bK (show 0<n1 by omega)
   cases k1:(decide (w.objs.length<=120)&&w.objs.all (wR w.objs.length)) with
   | false=>
     simp +contextual +decide (maxSteps:=1000000) only [↓ wP,wQ,tf,Nat.reduceAdd,ne_eq]
     rw [wT fun h=>by rw [decide_eq_true h.1,h.2.2.2.2.2.1]at k1;cases k1]
   | true=>
   simp +contextual +decide (maxSteps:=1000000) only [↓ wP,wQ,tf,Nat.reduceAdd,ne_eq,g0,f0,c1,c2,c3,c4,hI,aO]
   have r2:=fun (s:Sto) (hs:s.get 1=some (aX 0 [.int .i64 (w.objs.length:Nat)]))=>DA (O:=orcL LSt) (fun _ _=>rfl) (fun _ _=>rfl) (fun _ _=>rfl) hI 102 [.ptr 1 0 0] ts _ s2 w.tasks.length (by simp) (fun i=>mV (w.tasks.getD i default)) (fun i hi {q d}=>jT i hi) (fun i hi=>rfl) (fun i=>jI (w.tasks.getD i default) 0 ((w.objs.length:Int)-1)) 120 s
    (fun i hi s' hs'=>aHn w.objs.length 1 _ s' (by omega) (hs'.get hs))
   refine bP rfl ((r2 _ (by rw [Sto.get_mk (by omega)];exact g1)).wcall fun so hso=>?_)
   rw [lO w.tasks (fun t=>jI t 0 ((w.objs.length:Int)-1)),aJ]
   obtain ⟨n2,low2,o2,e1,h7,h8⟩:=cS hso
   rw [e1]
   clear e1 hso
   have g0':o2.get 0=some (aX 0 [os,ts,us,is,.int .i64 w.used]):=by rw [h8 0 (by omega)];exact g0
   have f0':=bK (show 0<n2 by omega)
   cases k2:(decide (w.tasks.length<=120)&&w.tasks.all (fun t=>jI t 0 ((w.objs.length:Int)-1))) with
   | false=>
     simp +contextual +decide (maxSteps:=1000000) only [↓ wP,wQ,tf,Nat.reduceAdd,ne_eq]
     rw [wT fun h=>by rw [decide_eq_true h.2.1,h.2.2.2.2.2.2.1]at k2;cases k2]
   | true=>
   simp +contextual +decide (maxSteps:=1000000) only [↓ wP,wQ,tf,Nat.reduceAdd,ne_eq,g0',f0',c1,c2,c3,c4,hU,aO]
   have r3:=fun (s:Sto)=>QW (O:=orcL LSt) (fun _ _=>rfl) (fun _ _=>rfl) (fun _ _=>rfl) hU 103 [] us _ s3 w.outs.length (by simp) (fun i=>gZ (w.outs.getD i default)) (fun i hi {q d}=>DD h3 i hi) (fun _ _=>rfl) (fun _ _=>rfl) (fun i=>lI (w.outs.getD i default)) 100 s
    (fun i hi s' hs'=>aHo _ s')
   refine bP rfl ((r3 _).wcall fun so hso=>?_)
   rw [lO w.outs lI,aJ]
   obtain ⟨n3,low3,o3,e1,h9,h10⟩:=cS hso
   rw [e1]
   clear e1 hso
   have g0'':o3.get 0=some (aX 0 [os,ts,us,is,.int .i64 w.used]):=by rw [h10 0 (by omega)];exact g0'
   have f0'':=bK (show 0<n3 by omega)
   cases k3:(decide (w.outs.length<=100)&&w.outs.all lI) with
   | false=>
     simp +contextual +decide (maxSteps:=1000000) only [↓ wP,wQ,tf,Nat.reduceAdd,ne_eq]
     rw [wT fun h=>by rw [decide_eq_true h.2.2.1,h.2.2.2.2.2.2.2.1]at k3;cases k3]
   | true=>
   simp +contextual +decide (maxSteps:=1000000) only [↓ wP,wQ,tf,Nat.reduceAdd,ne_eq,g0'',f0'',c1,c2,c3,c4,hI,aO]
   have r4:=fun (s:Sto)=>DA (O:=orcL LSt) (fun _ _=>rfl) (fun _ _=>rfl) (fun _ _=>rfl) hI 78 [] is _ s4 w.ins.length (by simp) (fun i=>mV (w.ins.getD i default)) (fun i hi {q d}=>jT i hi) (fun i hi=>rfl) (fun i=>dP (w.ins.getD i default)) 50 s
    (fun i hi s' hs'=>.orc rfl)
   refine bP rfl ((r4 _).wcall fun so hso=>?_)
   rw [lO w.ins dP,aJ]
   obtain ⟨n4,low4,o4,e1,h11,h12⟩:=cS hso
   rw [e1]
   clear e1 hso
   have g0''':o4.get 0=some (aX 0 [os,ts,us,is,.int .i64 w.used]):=by rw [h12 0 (by omega)];exact g0''
   have f0''':=bK (show 0<n4 by omega)
   cases k4:(decide (w.ins.length<=50)&&w.ins.all dP) with
   | false=>
     simp +contextual +decide (maxSteps:=1000000) only [↓ wP,wQ,tf,Nat.reduceAdd,ne_eq]
     rw [wT fun h=>by rw [decide_eq_true h.2.2.2.1,h.2.2.2.2.2.2.2.2]at k4;cases k4]
   | true=>
   simp only [Bool.and_eq_true,decide_eq_true_eq]at k1 k2 k3 k4
   cases k5:jI w.used 0 1073741824 with
   | false=>
     simp +contextual +decide (maxSteps:=1000000) only [↓ wP,wQ,tf,Nat.reduceAdd,ne_eq,g0''',f0''',c1,c2,c3,c4,jX,k5]
     rw [wT fun h=>by rw [h.2.2.2.2.1]at k5;cases k5]
   | true=>
     simp +contextual +decide (maxSteps:=1000000) only [↓ wP,wQ,tf,Nat.reduceAdd,ne_eq,g0''',f0''',c1,c2,c3,c4,jX,k5]
     rw [DB.2 ⟨k1.1,k2.1,k3.1,k4.1,k5,k1.2,k2.2,k3.2,k4.2⟩]
end
end Go.Proofs.YtajngkkihadgfaaGreat
/-
 The layer of images: pages and their checks.
-/
namespace Go.Proofs.YtajngkkihadgfaaGreat
open Go.Abs Go Go.Abs.TryzF
noncomputable section
set_option maxRecDepth 10000
theorem aLs {a:Nat} (h:a<65536):IntKind.u8.wrap (Int.fdiv (a:Int) (2 ^ min 8 IntKind.i64.bits))=((a/256:Nat):Int):=by
 have:(2:Int) ^ min 8 IntKind.i64.bits=256:=by decide
 rw [this,Int.fdiv_eq_ediv_of_nonneg _ (by omega),show ((a:Int)/256)=((a/256:Nat):Int) by omega,tC];omega
def gS (n:Nat):AV:=.int .i64 (n:Nat)
def aF (s:List Nat):Nat:=if s.length%32≠0∨256<s.length/32 then 0 else s.length/32
theorem rF (s:List Nat) (hs:s.length<9223372036854775808):Abs.Returns Tryz.prog 51 [.str s] (.int .i64 (aF s:Nat)):=by
 refine bJ (L:=[]) aR aQ (by kernel_rfl) Tryz.func51 Tryz.ntmps51 Tryz.results51 rfl rfl (aE lY aH) aU ?_
 have e1:IntKind.i64.wrap (Int.tdiv (s.length:Nat) 32)=((s.length/32:Nat):Int):=by
  rw [Int.tdiv_eq_ediv_of_nonneg (by omega),IntWalk.i64_in _ (by omega)];omega
 have e2:Int.tmod ((s.length:Nat):Int) 32=((s.length%32:Nat):Int):=by
  rw [Int.tmod_eq_emod_of_nonneg (by omega)];omega
 simp +contextual +decide only [↓ sQ,↓ aB,lK,aD,aC,cF,VA,VG,xP,tf,e1,e2]
 unfold aF
 by_cases h1:s.length%32=0
 ·by_cases h2:256<s.length/32
  ·simp [h1,h2];omega
  ·simp [h1,h2];omega
 ·simp [h1];omega
def step (x:Nat × Nat) (c:Nat):Nat × Nat:=((x.1+c)%257,(x.2+(x.1+c)%257)%257)
def XF (n:Nat) (l:List Nat):Nat × Nat:=l.foldl step (n+1,0)
def dL (n:Nat) (p:List Nat):List Nat:=[(XF n (p.take 28)).1/256,(XF n (p.take 28)).1%256,(XF n (p.take 28)).2/256,(XF n (p.take 28)).2%256]
theorem uA (x:Nat × Nat) (c:Nat):(step x c).1<257/\(step x c).2<257:=⟨Nat.mod_lt _ (by omega),Nat.mod_lt _ (by omega)⟩
theorem MU (p:List Nat) (n:Nat) (hp:p.length=32) (hb:∀ b∈p,b<256) (hn:n<4611686018427387904):Abs.Returns Tryz.prog 111 [.agg (p.map encB),.int .i64 (n:Nat)] (.agg ((dL n p).map encB)):=by
 refine bJ (L:=[]) aR aQ (by kernel_rfl) Tryz.func111 Tryz.ntmps111 Tryz.results111 rfl rfl (aE (pG (by simp only [List.mem_map];rintro x ⟨b,_,rfl⟩;exact EC b)) (aE aU aH)) (pG (by simp only [List.mem_map];rintro x ⟨b,_,rfl⟩;exact EC b)) ?_
 simp +contextual +decide only [↓ sQ,↓ aB,lK,aD,aC,cF,VA,zM,VG,xP,tf,hp,aW (show n<9223372036854775807 by omega),Int.reduceToNat,Nat.reduceAdd]
 have hlen:(p.take 28).length=28:=by simp [hp]
 let S:Nat->Nat × Nat:=fun i=>(p.take i).foldl step (n+1,0)
 have hS1:∀ i,(S i).1<4611686018427387905:=by
  intro i
  cases i with
  | zero=>simp only [S,List.take_zero,List.foldl_nil];omega
  | succ i=>
    by_cases hi:i<p.length
    ·simp only [S,List.take_succ_eq_append_getElem hi,List.foldl_append,List.foldl_cons,List.foldl_nil]
     have:=(uA ((p.take i).foldl step (n+1,0)) p[i]).1;omega
    ·have e1:p.take (i+1)=p.take 31++[p.getD 31 0]:=by
      rw [List.take_of_length_le (by omega),bI (show 31<p.length by omega)]
      have:=List.take_succ_eq_append_getElem (show 31<p.length by omega)
      rw [<-this,List.take_of_length_le (by omega)]
     simp only [S,e1,List.foldl_append,List.foldl_cons,List.foldl_nil]
     have:=(uA ((p.take 31).foldl step (n+1,0)) (p.getD 31 0)).1;omega
 have hS2:∀ i,i<=28->(S i).2<257:=by
  intro i hi
  cases i with
  | zero=>simp only [S,List.take_zero,List.foldl_nil];omega
  | succ i=>
    have hi':i<p.length:=by omega
    simp only [S,List.take_succ_eq_append_getElem hi',List.foldl_append,List.foldl_cons,List.foldl_nil]
    exact (uA ((p.take i).foldl step (n+1,0)) p[i]).2
 have hSs:∀ i,i<28->S (i+1)=step (S i) (p.getD i 0):=by
  intro i hi
  have hi':i<p.length:=by omega
  simp only [S,List.take_succ_eq_append_getElem hi',List.foldl_append,List.foldl_cons,List.foldl_nil,bI hi']
 refine bU (fun i e=>∃ t,e=⟨38,none,111,t,[],⟨2,0,(Tr.leaf.set 0 (aX 0 (List.map encB p))).set 1 (aX 0 [AV.int IntKind.u8 0,AV.int IntKind.u8 0,AV.int IntKind.u8 0,AV.int IntKind.u8 0])⟩,.no⟩/\t.val 4=.ptr 1 0 0/\t.val 5=.int .i64 ((S i).1:Nat)/\t.val 6=.int .i64 ((S i).2:Nat)/\t.val 11=.sl 0 0 0 28 (.is 32)/\t.val 12=.int .i64 (28:Nat)/\t.val 13=.int .i64 (i:Nat)/\i<=28) (fun i=>28-i) 0
  ⟨_,rfl,by simp +decide only [↓ aB],by simp +decide only [↓ aB];rfl,by simp +decide only [↓ aB];rfl,by simp +decide only [↓ aB],by simp +decide only [↓ aB],by simp +decide only [↓ aB];rfl,by omega⟩ ?_
 rintro i _ ⟨t,rfl,h4,h5,h6,h11,h12,h13,hi⟩
 by_cases hlt:i<28
 ·have d1:(i:Int)<(28:Nat):=by omega
  have d3:(0:Int)<=i:=by omega
  have d4:((i:Int)).toNat=i:=by omega
  have d5:=aW (i:=i) (by omega)
  have d6:(p.map encB)[i]?=some (encB (p.getD i 0)):=by
   have hi':i<p.length:=by omega
   simp [hi']
  have hc:p.getD i 0<256:=by rw [bI (show i<p.length by omega)];exact hb _ (List.getElem_mem _)
  have q1:=hS1 i
  have q2:=hS2 i (by omega)
  have e1:IntKind.i64.wrap ((p.getD i 0:Nat):Int)=((p.getD i 0:Nat):Int):=cZ (by omega)
  have e2:IntKind.i64.wrap (((S i).1:Nat)+((p.getD i 0:Nat):Int))=(((S i).1+p.getD i 0:Nat):Int):=by rw [<-Int.natCast_add];exact cZ (by omega)
  have e3:Int.tmod (((S i).1+p.getD i 0:Nat):Int) 257=(((S i).1+p.getD i 0)%257:Nat):=dF
  have e4:IntKind.i64.wrap (((S i).2:Nat)+((((S i).1+p.getD i 0)%257:Nat):Int))=(((S i).2+((S i).1+p.getD i 0)%257:Nat):Int):=by rw [<-Int.natCast_add];exact cZ (by omega)
  have e5:Int.tmod (((S i).2+((S i).1+p.getD i 0)%257:Nat):Int) 257=(((S i).2+((S i).1+p.getD i 0)%257)%257:Nat):=dF
  simp +contextual +decide only [↓ sQ,↓ aB,lK,aD,aC,cF,VA,zM,VG,xP,xO,tf,hp,h4,h5,h6,h11,h12,h13,d1,d3,d4,d5,d6,Int.reduceToNat,Nat.reduceAdd,Nat.zero_add,Nat.mul_one,encB,e1,e2,e3,e4,e5]
  exact ⟨i+1,by show _-_<_-_;omega,_,rfl,by simp +decide only [↓ aB,h4],by simp +decide only [↓ aB,hSs i hlt,step],by simp +decide only [↓ aB,hSs i hlt,step],
   by simp +decide only [↓ aB,h11],by simp +decide only [↓ aB,h12],by simp +decide only [↓ aB],hlt⟩
 ·have:i=28:=by omega
  subst this
  simp +contextual +decide only [↓ sQ,↓ aB,lK,aD,aC,cF,VA,zM,VG,xP,xO,tf,hp,h4,h5,h6,h11,h12,h13,Int.reduceToNat,Nat.reduceAdd,Nat.zero_add,Nat.mul_one,EN,aL,Option.bind_some]
  have k1:(S 28).1<257:=by rw [hSs 27 (by omega)];exact (uA _ _).1
  have k2:=hS2 28 (by omega)
  show AV.agg _=AV.agg (List.map encB [(S 28).1/256,(S 28).1%256,(S 28).2/256,(S 28).2%256])
  simp only [List.map_cons,List.map_nil,encB,aLs (show (S 28).1<65536 by omega),aLs (show (S 28).2<65536 by omega),tC]
def right (n:Nat) (p:List Nat):Bool:=decide (dL n p=p.drop 28)
theorem aPf:aMk Tryz.prog 159=some (4,.u8):=by kernel_rfl
theorem XG {p:List Nat} (hp:p.length=32):aG p 28 4=p.drop 28:=by
 unfold aG;rw [List.take_of_length_le];simp [hp]
theorem pA {p:List Nat} {n:Nat} (hp:p.length=n):aG p 0 n=p:=by
 unfold aG;rw [List.drop_zero,List.take_of_length_le (by omega)]
theorem MV (l:List Nat):l.map encB=(l.map Int.ofNat).map (.int .u8):=by rw [List.map_map];rfl
theorem XH {l m:List Nat}:(l.map Int.ofNat=m.map Int.ofNat)=(l=m):=propext (List.map_inj_right fun _ _=>Int.ofNat.inj)
theorem aCf {p q:List Nat} (hp:p.length=4) (hq:q.length=4) {x y:Operand}:abin Tryz.prog .eql 159 x y (.agg (p.map encB)) (.agg (q.map encB))=some (.bool (decide (p=q))):=by
 rw [MV,MV,aDj aPf (by simpa using hp) (by simpa using hq)]
 simp only [XH]
theorem MW (p:List Nat) (n:Nat) (hp:p.length=32) (hb:∀ b∈p,b<256) (hn:n<4611686018427387904):Abs.Returns Tryz.prog 53 [.agg (p.map encB),.int .i64 (n:Nat)] (.bool (right n p)):=by
 refine bJ (L:=[vR 111 [.agg (p.map encB),.int .i64 (n:Nat)] (.agg ((dL n p).map encB))]) (elist_cons (kQ (MU p n hp hb hn)) aR) (fun _=>([2],[])) (by kernel_rfl) Tryz.func53 Tryz.ntmps53 Tryz.results53 rfl rfl (aE (pG (by simp only [List.mem_map];rintro x ⟨b,_,rfl⟩;exact EC b)) (aE aU aH)) dG ?_
 simp +contextual +decide only [↓ sQ,↓ aB,lK,aD,aC,cF,VA,zM,VG,xP,tf,hp,Int.reduceToNat,Nat.reduceAdd,Nat.reduceSub,Nat.zero_add,Nat.mul_one,gN,XG,pA,aCf (show (dL n p).length=4 from rfl) (show (p.drop 28).length=4 by simp [hp])]
 rfl
def rG (s:List Nat):AV:=.func (.func 115) [] [.pf (.str s)]
theorem wV (s:List Nat):Abs.Returns Tryz.prog 52 [.str s] (rG s):=by
 refine OB (L:=[]) aR aQ (by kernel_rfl) Tryz.func52 Tryz.ntmps52 Tryz.results52 rfl rfl (aE lY aH) ?_
 simp +contextual +decide only [↓ sQ,↓ aB,lK,aD,aC,cF,VA,zM,VG,xP,tf,Nat.reduceAdd]
 exact .func _ _ _ _ _ rfl rfl kE (bZ (aIk (g:=0) (cs:=[.str s]) (Nat.le_refl _) rfl (Nat.le_refl _) (fun j x y hx hy=>by
  cases j with
  | zero=>simp [AV.cells]at hx hy;subst hx;subst hy;exact .und _ lY
  | succ j=>simp [AV.cells]at hy)) kE)
def aP (s:List Nat) (i:Nat):List Nat:=aG s (i*32) 32
def qE (s:List Nat):List (List AV):=(List.range (aF s)).map fun i=>[.int .i64 (i:Nat),.agg ((aP s i).map encB)]
theorem vM {s:List Nat} {i:Nat} (h:i<aF s):i*32+32<=s.length/\i<256:=by
 unfold aF at h
 split at h<;>omega
theorem fY {s:List Nat} {i:Nat} (h:i<aF s):(aP s i).length=32:=by
 have:=(vM h).1
 simp [aP,aG];omega
theorem qF {s:List Nat} (hb:∀ b∈s,b<256) (i:Nat):∀ b∈aP s i,b<256:=fun b h=>hb b (List.mem_of_mem_drop (List.mem_of_mem_take h))
theorem vP (s:List Nat) (hs:s.length<9223372036854775808) {O:bW} (h32:∀ σ,O 51 [.str s] σ=some (.ret (.int .i64 (aF s:Nat)) none)) (h62:∀ a σ,O 115 a σ=none):aPt Tryz.prog O (rG s) (qE s):=by
 intro l J D X σ hl hJs hDs hXs hJ0 hr
 have hrow:(qE s).length=aF s:=by simp [qE]
 refine iN (h62 _ _) (by kernel_rfl) Tryz.func115 rfl (Wk.sound (H:=aQ) ?_)
 rw [hrow]
 show Wk _ _ _ _ ⟨24,none,115,Tr.leaf.lay 0 [.func (.yield l) [] [],.pf (.str s)],[],⟨σ.n,σ.n,σ.o⟩,.no⟩ _
 simp +contextual +decide only [↓ sQ,↓ aB,lK,aD,aC,cF,VA,zM,VG,xP,tf,Nat.reduceAdd,h32,oJ]
 refine bU (fun i e=>∃ t u,e=⟨24,none,115,t,[],u,.no⟩/\t.val 0=.func (.yield l) [] []/\t.val 1=.pf (.str s)/\t.val 5=.int .i64 (aF s:Nat)/\t.val 6=.int .i64 (i:Nat)/\i<=aF s/\l<u.n/\J i u/\(i=0∨u.low<=l)) (fun i=>aF s-i) 0
  ⟨_,_,rfl,by simp +decide only [↓ aB,aD,aC],by simp +decide only [↓ aB,aD,aC],by simp +decide only [↓ aB,aD],by simp +decide only [↓ aB,aD];rfl,Nat.zero_le _,hl,hJs _ _ _ (Sim.low σ σ.n) hJ0,.inl rfl⟩ ?_
 rintro i _ ⟨t,⟨n,low,o⟩,rfl,h0,h1,h5,h6,hi,hln,hJ,hlow⟩
 by_cases hlt:i<aF s
 ·have hle:=vM hlt
  have d1:(i:Int)<(aF s:Nat):=by omega
  have e1:IntKind.i64.wrap ((i:Int)*32)=((i*32:Nat):Int):=by rw [IntWalk.i64_in _ (by omega)];simp
  have e2:IntKind.i64.wrap (((i+1:Nat):Int)*32)=(((i+1)*32:Nat):Int):=by rw [IntWalk.i64_in _ (by omega)];simp
  have d5:=aW (i:=i) (by omega)
  have f1:(0:Int)<=((i*32:Nat):Int):=by omega
  have f2:((i*32:Nat):Int)<=(((i+1)*32:Nat):Int):=by omega
  have f3:(((i+1)*32:Nat):Int)<=(s.length:Nat):=by omega
  have f4:aG s (((i*32:Nat):Int)).toNat ((((i+1)*32:Nat):Int).toNat-(((i*32:Nat):Int)).toNat)=aP s i:=by
   rw [Int.toNat_natCast,Int.toNat_natCast,aP];congr 1;omega
  have hp:=fY hlt
  have dn:n<n+1:=Nat.lt_succ_self n
  simp +contextual +decide only [↓ sQ,↓ aB,lK,aD,aC,cF,VA,zM,VG,xP,xO,tf,Nat.reduceAdd,Nat.zero_add,oJ,h0,h1,h5,h6,d1,e1,e2,d5,f1,f2,f3,f4,hp,dn,pA]
  have hcall:=hr i [.int .i64 (i:Nat),.agg ((aP s i).map encB)] (by simp [qE,hlt]) ((Sto.mk n low o).push (aX 0 ((aP s i).map encB))) (Nat.lt_succ_of_lt hln) (hJs _ _ _ (Sim.push _ _) hJ)
  refine hcall.mono fun res hk=>?_
  have hk':rK l J D X i ⟨n+1,low,o.set n (aX 0 ((aP s i).map encB))⟩ res:=hk
  clear hk hcall
  cases res with
  | pan v so=>
    rw [RS]
    have k:(so.getD ⟨n+1,low,o.set n (aX 0 ((aP s i).map encB))⟩).low<=l/\X v (so.getD ⟨n+1,low,o.set n (aX 0 ((aP s i).map encB))⟩):=hk'
    generalize so.getD ⟨n+1,low,o.set n (aX 0 ((aP s i).map encB))⟩=u at *
    simp +contextual +decide only [↓ sQ,↓ aB,lK,aD,aC,xO]
    exact JM rfl (xJ _ _ _ (X v) (hXs v) k.2 (.inl (Nat.lt_of_le_of_lt k.1 hl)))
  | ret v so=>
    rw [aJ]
    have k:(v=.bool true/\(so.getD ⟨n+1,low,o.set n (aX 0 ((aP s i).map encB))⟩).low<=l/\l<(so.getD ⟨n+1,low,o.set n (aX 0 ((aP s i).map encB))⟩).n/\J (i+1) (so.getD ⟨n+1,low,o.set n (aX 0 ((aP s i).map encB))⟩))∨(v=.bool false/\(so.getD ⟨n+1,low,o.set n (aX 0 ((aP s i).map encB))⟩).low<=l/\D (so.getD ⟨n+1,low,o.set n (aX 0 ((aP s i).map encB))⟩)):=by
     cases v with
     | bool b=>cases b with
       | true=>exact .inl ⟨rfl,hk'⟩
       | false=>exact .inr ⟨rfl,hk'⟩
     | _=>exact hk'.elim
    generalize so.getD ⟨n+1,low,o.set n (aX 0 ((aP s i).map encB))⟩=u at *
    rcases k with ⟨rfl,k1,k0,k2⟩ | ⟨rfl,k1,k2⟩
    ·simp +contextual +decide only [↓ sQ,↓ aB,lK,aD,aC,xO,Nat.reduceAdd,h6,d5]
     exact ⟨i+1,by show _-_<_-_;omega,_,_,rfl,by simp +decide only [↓ aB,h0],by simp +decide only [↓ aB,h1],by simp +decide only [↓ aB,h5],by simp +decide only [↓ aB],hlt,k0,k2,.inr k1⟩
    ·simp +contextual +decide only [↓ sQ,↓ aB,lK,aD,aC,xO,Nat.reduceAdd,h6,d5]
     exact iU rfl (vs:=[]) rfl (.inr (xJ _ _ _ D hDs k2 (.inl (Nat.lt_of_le_of_lt k1 hl))))
 ·have d1:¬ (i:Int)<(aF s:Nat):=by omega
  simp +contextual +decide only [↓ sQ,↓ aB,lK,aD,aC,xO,Nat.reduceAdd,h5,h6,d1]
  have hic:i=aF s:=by omega
  refine iU rfl (vs:=[]) rfl (.inl (xJ _ _ _ (J (aF s)) (hJs _) (hic ▸ hJ) ?_))
  rcases hlow with h | h
  ·refine .inr ?_
   rw [<-hic,h];exact hJ0
  ·exact .inl (Nat.lt_of_le_of_lt h hl)
end
end Go.Proofs.YtajngkkihadgfaaGreat
