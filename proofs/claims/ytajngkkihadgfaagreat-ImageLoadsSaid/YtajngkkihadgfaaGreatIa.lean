/-
  Worlds, in plain words; how they lie in the machine.
-/
import Derived.Test.YtajngkkihadgfaaGreatHw
import Derived.Test.YtajngkkihadgfaaGreatEp
set_option linter.unusedVariables false
set_option linter.unusedSimpArgs false
namespace Go.Proofs.YtajngkkihadgfaaGreat
open Go.Abs Go Go.Abs.TryzF
noncomputable section
set_option maxRecDepth 10000
structure Wd where
 objs:List Ob
 tasks:List Int
 outs:List eZ
 ins:List Int
 used:Int
 deriving DecidableEq
def EB:Wd:=⟨[],[],[],[],0⟩
def KI (n:Int) (v:eZ):Bool:=!(decide (v.1=5)&&decide (n<=v.2))
def mH (n:Int) (l:List eZ):Bool:=l.all (KI n)
def NX (n:Int) (f:Fr):Bool:=mH n f.env&&mH n f.vals
def fO (n:Int) (o:Ob):Bool:=o.frs.all (NX n)&&mH n o.vals
def CG (n:Int) (o:Ob):Bool:=fY o&&fO n o
def kU (v:eZ):Bool:=dF v.1&&dF v.2
def xD (w:Wd):Bool:=decide (w.objs.length<=120)&&decide (w.tasks.length<=120)&&decide (w.outs.length<=100)&&decide (w.ins.length<=50)&&jE w.used 0 1073741824 &&
 w.objs.all (CG w.objs.length)&&w.tasks.all (fun t=>jE t 0 ((w.objs.length:Int)-1))&&w.outs.all kU&&w.ins.all dF
def KJ:AV->Option Int
 | .int .i64 n=>some n
 | _=>none
def dW:AV->Option (List Int):=HO KJ
def xE:AV->Option (List Ob):=HO dQ
def jA:AV->Option Wd
 | .agg [os,ts,us,is,.int .i64 n]=>match xE os,dW ts,bR us,dW is with
   | some a,some b,some c,some d=>some ⟨a,b,c,d,n⟩
   | _,_,_,_=>none
 | _=>none
theorem NY {a:AV} {n:Int} (h:KJ a=some n):a=lY n:=by
 unfold KJ at h
 split at h
 ·cases h;rfl
 ·cases h
theorem fD {a:AV} {l:List Int} (h:dW a=some l):Sl a (l.map lY):=by
 unfold dW HO at h
 split at h
 ·simp at h;subst h;exact ⟨.inl ⟨rfl,rfl⟩,Nat.zero_le _⟩
 ·rename_i xs c
  split at h
  ·rename_i hl
   have:=FE (g:=lY) (fun a x=>NY) xs l h
   subst this
   exact ⟨.inr ⟨c,rfl⟩,hl⟩
  ·cases h
 ·cases h
theorem SA {a:AV} {l:List Int} (h:Sl a (l.map lY)):dW a=some l:=by
 rcases h.1 with ⟨rfl,e⟩ | ⟨c,rfl⟩
 ·rw [List.map_eq_nil_iff.1 e];rfl
 ·show (if _ then _ else _)=_
  rw [if_pos h.2,FD (f:=KJ) (g:=lY) fun _=>rfl]
theorem EC {a:AV} {w:Wd} (h:jA a=some w):∃ os ts us is,a=.agg [os,ts,us,is,.int .i64 w.used]/\xE os=some w.objs/\dW ts=some w.tasks/\bR us=some w.outs/\dW is=some w.ins:=by
 unfold jA at h
 split at h
 ·rename_i os ts us is n
  split at h
  ·rename_i a b c d h1 h2 h3 h4
   cases h
   exact ⟨os,ts,us,is,rfl,h1,h2,h3,h4⟩
  ·cases h
 ·cases h
theorem NZ (a:AV) (o:Ob) (h:dQ a=some o):∃ cs,a=.agg cs/\cs.length=4/\cs.all AV.isCell=true:=by
 obtain ⟨vs,fs,rfl,h1,h2⟩:=fH h
 refine ⟨_,rfl,rfl,?_⟩
 simp only [List.all_cons,List.all_nil,aX h1,jO h2];rfl
theorem SB {α:Type} [Inhabited α] {f:AV->Option α} {k:Nat} (hf:∀ a x,f a=some x->∃ cs,a=.agg cs/\cs.length=k/\cs.all AV.isCell=true) {a:AV} {l:List α} (h:HO f a=some l):
 ∃ (xs:List AV) (c:Nat->List AV),Sl a xs/\xs.length=l.length/\(∀ i,i<l.length->(∀ {q:IntKind} {d:Option AV},fK (some k) xs (.int q (i:Nat)) d=some (.pf (.agg (c i))))/\(c i).length=k/\(c i).all AV.isCell=true/\f (.agg (c i))=some (l.getD i default)):=by
 obtain ⟨xs,h1,h2,h3⟩:=vE h
 refine ⟨xs,fun i=>(xs.getD i .top).cells,h1,h2,fun i hi=>?_⟩
 have hx:i<xs.length:=by omega
 obtain ⟨cs,q1,q2,q3⟩:=hf _ _ (h3 i hx hi)
 have hxi:xs.getD i .top=.agg cs:=by rw [bZ hx];exact q1
 refine ⟨fun {q d}=>?_,by simp only [hxi];exact q2,by simp only [hxi];exact q3,?_⟩
 ·simp only [hxi]
  refine qE (by omega) (by omega) ?_ q2
  rw [Int.toNat_natCast,List.getElem?_eq_getElem hx,q1];rfl
 ·simp only [hxi,AV.cells]
  rw [bZ hi,<-h3 i hx hi,q1]
theorem oM {a:AV} {l:List Ob} (h:xE a=some l):∃ (xs:List AV) (c:Nat->List AV),Sl a xs/\xs.length=l.length/\(∀ i,i<l.length->(∀ {q:IntKind} {d:Option AV},fK (some 4) xs (.int q (i:Nat)) d=some (.pf (.agg (c i))))/\(c i).length=4/\(c i).all AV.isCell=true/\dQ (.agg (c i))=some (l.getD i default)):=SB NZ h
theorem YC {a:AV} {l:List Ob} (h:xE a=some l):UnderE 0 a:=by
 obtain ⟨xs,h1,h2,h3⟩:=vE h
 refine LI h1 fun x hx=>?_
 obtain ⟨i,hi,rfl⟩:=List.mem_iff_getElem.1 hx
 exact lK (h3 i hi (by omega))
theorem sE {a:AV} {l:List Int} (h:dW a=some l):UnderE 0 a:=LI (fD h) (PF l)
theorem oZ {a:AV} {w:Wd} (h:jA a=some w):UnderE 0 a:=by
 obtain ⟨os,ts,us,is,rfl,h1,h2,h3,h4⟩:=EC h
 refine fI fun x hx=>?_
 simp at hx
 rcases hx with rfl | rfl | rfl | rfl | rfl
 ·exact YC h1
 ·exact sE h2
 ·exact eK h3
 ·exact sE h4
 ·exact ⟨1,rfl⟩
theorem nC {a:AV} {w:Wd} (h:jA a=some w):∃ os ts us is,a=.agg [os,ts,us,is,.int .i64 w.used]/\xE os=some w.objs/\dW ts=some w.tasks/\bR us=some w.outs/\dW is=some w.ins/\os.isCell=true/\ts.isCell=true/\us.isCell=true/\is.isCell=true:=by
 obtain ⟨os,ts,us,is,rfl,h1,h2,h3,h4⟩:=EC h
 exact ⟨os,ts,us,is,rfl,h1,h2,h3,h4,jO h1,jO h2,jO h3,jO h4⟩
end
end Go.Proofs.YtajngkkihadgfaaGreat
/-
 The program of images: every,for objects,outputs and numbers.
-/
namespace Go.Proofs.YtajngkkihadgfaaGreat
open Go.Abs Go Go.Abs.TryzF
noncomputable section
set_option maxRecDepth 10000
theorem SC {O:bX} (ho:∀ a σ,O 142 a σ=none) (g:FuncId) (cap:List AV) (a:AV) (xs:List AV) (ha:Sl a xs) (m:Nat) (hlen:xs.length=m) (c:Nat->List AV) (hix:∀ i,i<m->∀ {q:IntKind} {d:Option AV},fK (some 4) xs (.int q (i:Nat)) d=some (.pf (.agg (c i)))) (hcl:∀ i,i<m->(c i).length=4) (p:Nat->Bool) (s:Sto)
 (h:∀ i,i<m->∀ s',Sim s s'->RetS Tryz.prog O (.func (.func g) [] cap) [.agg (c i)] s' (.bool (p i))):RetS Tryz.prog O (.func (.func 142) [] []) [a,.func (.func g) [] cap] s (.int .i64 (match (List.range m).findIdx? p with | some i=>((i:Nat):Int) | none=>-1)):=by
 have hll:=ha.2
 refine RetS.run (first:=[]) (args:=[a,.func (.func g) [] cap]) (cap:=[]) aL (ho _ _) (by kernel_rfl) Tryz.func142 Tryz.ntmps142 Tryz.results142 rfl rfl ?_
 obtain ⟨n0,low0,o0⟩:=s
 show Wk _ _ _ _ ⟨19,none,142,Tr.leaf.lay 0 [a,.func (.func g) [] cap],[],⟨n0,n0,o0⟩,.no⟩ _
 simp +contextual +decide (maxSteps:=1000000) only [↓ wP,wQ,tf,ne_eq,ha.len,hlen]
 refine bE (fun i e=>∃ t n low o,e=⟨19,none,142,t,[],⟨n,low,o⟩,.no⟩/\t.val 0=a/\t.val 1=.func (.func g) [] cap/\t.val 7=.int .i64 (m:Nat)/\t.val 8=.int .i64 (i:Nat)/\i<=m/\(∀ j,j<i->p j=false)/\n0<=n/\∀ id,id<n0->o.get id=o0.get id) (fun i=>m-i) 0
  ⟨_,n0,n0,o0,rfl,by simp +decide only [↓ aB,dJ,cL],by simp +decide only [↓ aB,dJ,cL],by simp +decide only [↓ aB],by simp +decide only [↓ aB];rfl,Nat.zero_le _,fun j hj=>by omega,Nat.le_refl _,fun _ _=>rfl⟩ ?_
 rintro i _ ⟨t,n,low,o,rfl,t0,t1,t7,t8,hi,hpre,hn,hoth⟩
 by_cases hlt:i<m
 ·have d1:((i:Int)<(m:Nat))=True:=eq_true (by omega)
  have d5:=aJ (i:=i) (by omega)
  have x1:=fun {q d}=>hix i hlt (q:=q) (d:=d)
  have x2:=hcl i hlt
  have x3:=h i hlt
  generalize c i=cs at *
  simp +contextual +decide (maxSteps:=1000000) only [↓ wP,wQ,tf,ne_eq,ha.idx,t0,t1,t7,t8,d1,x1,x2]
  refine cZ.1 ((x3 ⟨n,low,o⟩ (bC (low:=low0) hn hoth)).wcall fun so hso=>?_)
  rw [aI]
  obtain ⟨n',low',o',e1,h1,h2⟩:=dA hso
  rw [e1]
  cases hp:p i with
  | true=>
    have hf:(List.range m).findIdx? p=some i:=by
     rw [List.findIdx?_eq_some_iff_getElem]
     refine ⟨by simpa using hlt,by simpa using hp,fun j hj=>?_⟩
     have:=hpre j hj
     simpa using this
    simp +contextual +decide (maxSteps:=1000000) only [↓ wP,wQ,ne_eq,aZ,hf]
    exact bC (by omega) (fun id hid=>by rw [h2 id (by omega)];exact hoth id hid)
  | false=>
    simp +contextual +decide (maxSteps:=1000000) only [↓ wP,wQ,ne_eq,t8,d5]
    exact ⟨i+1,by show _-_<_-_;omega,_,n',low',o',rfl,by simp +decide only [↓ aB,t0],by simp +decide only [↓ aB,t1],by simp +decide only [↓ aB,t7],by simp +decide only [↓ aB],hlt,fun j hj=>by
     rcases Nat.lt_succ_iff_lt_or_eq.1 hj with hj | rfl
     ·exact hpre j hj
     ·exact hp,by omega,fun id hid=>by rw [h2 id (by omega)];exact hoth id hid⟩
 ·have:i=m:=by omega
  subst this
  have d1:(((i:Nat):Int)<(i:Nat))=False:=eq_false (by omega)
  have hf:(List.range i).findIdx? p=none:=by
   rw [List.findIdx?_eq_none_iff]
   intro x hx
   exact hpre x (List.mem_range.1 hx)
  simp +contextual +decide (maxSteps:=1000000) only [↓ wP,wQ,t7,t8,d1,aZ,hf]
  exact bC hn hoth
theorem HJ {O:bX} (ho:∀ a σ,O 142 a σ=none) (ho':∀ a σ,O 134 a σ=none) (g:FuncId) (cap:List AV) (a:AV) (xs:List AV) (ha:Sl a xs) (m:Nat) (hlen:xs.length=m) (c:Nat->List AV) (hix:∀ i,i<m->∀ {q:IntKind} {d:Option AV},fK (some 4) xs (.int q (i:Nat)) d=some (.pf (.agg (c i)))) (hcl:∀ i,i<m->(c i).length=4) (p:Nat->Bool) (s:Sto)
 (h:∀ i,i<m->∀ s',Sim s s'->RetS Tryz.prog O (.func (.func g) [] cap) [.agg (c i)] s' (.bool (p i))):RetS Tryz.prog O (.func (.func 134) [] []) [a,.func (.func g) [] cap] s (.bool ((List.range m).any p)):=by
 have hx:=fun s' hs=>SC ho g cap a xs ha m hlen c hix hcl p s' fun x hx s'' hs'=>h x hx s'' (Sim.trans (b:=s') hs hs')
 refine RetS.run (first:=[]) (args:=[a,.func (.func g) [] cap]) (cap:=[]) aL (ho' _ _) (by kernel_rfl) Tryz.func134 Tryz.ntmps134 Tryz.results134 rfl rfl ?_
 obtain ⟨n0,low0,o0⟩:=s
 show Wk _ _ _ _ ⟨9,none,134,Tr.leaf.lay 0 [a,.func (.func g) [] cap],[],⟨n0,n0,o0⟩,.no⟩ _
 simp +contextual +decide (maxSteps:=1000000) only [↓ wP,wQ,ne_eq,ho,aP]
 refine bQ (ho _ _) ((hx ⟨n0,n0,o0⟩ (bC (Nat.le_refl _) fun _ _=>rfl)).wcall fun so hso=>?_)
 rw [aI]
 obtain ⟨n',low',o',e1,h1,h2⟩:=dA hso
 rw [e1]
 cases hf:(List.range m).findIdx? p with
 | none=>
   have hany:(List.range m).any p=false:=by
    rw [List.any_eq_false];intro x hx;have:=List.findIdx?_eq_none_iff.1 hf x hx;simp [this]
   simp +contextual +decide (maxSteps:=1000000) only [↓ wP,wQ,aZ,hany]
   exact bC h1 h2
 | some i=>
   have hany:(List.range m).any p=true:=by
    obtain ⟨h3,h4,_⟩:=List.findIdx?_eq_some_iff_getElem.1 hf
    rw [List.any_eq_true];exact ⟨_,List.getElem_mem h3,h4⟩
   simp +contextual +decide (maxSteps:=1000000) only [↓ wP,wQ,aZ,hany,show ((0:Int)<=(i:Nat))=True from eq_true (by omega)]
   exact bC h1 h2
theorem OA {O:bX} (ho1:∀ a σ,O 135 a σ=none) (g:FuncId) (cap:List AV) (cs:List AV) (hcs:cs.length=4) (hcc:cs.all AV.isCell=true) (b:Bool) (c:Nat) (s:Sto) (hc:s.get c=some (aU 0 [.func (.func g) [] cap]))
 (h:∀ s',Sim s s'->RetS Tryz.prog O (.func (.func g) [] cap) [.agg cs] s' (.bool b)):RetS Tryz.prog O (.func (.func 135) [] [.ptr c 0 0]) [.agg cs] s (.bool !b):=by
 refine RetS.run (first:=[]) (args:=[.agg cs]) (cap:=[.ptr c 0 0]) aL (ho1 _ _) (by kernel_rfl) Tryz.func135 Tryz.ntmps135 Tryz.results135 rfl rfl ?_
 obtain ⟨n0,low0,o0⟩:=s
 have hcn:c<n0:=Sto.get_lt hc
 rw [Sto.get_mk hcn]at hc
 have f0:=bA hcn
 have hz:0+4<=cs.length:=by omega
 show Wk _ _ _ _ ⟨8,none,135,Tr.leaf.lay 0 [.agg cs,.ptr c 0 0],[],⟨n0,n0,o0⟩,.no⟩ _
 simp +contextual +decide (maxSteps:=1000000) only [↓ wP,wQ,tf,Nat.reduceAdd,ne_eq,hc,hcc,hcs,f0,cS,show aG cs 0 4=cs from by unfold aG;rw [List.drop_zero,List.take_of_length_le (by omega)]]
 refine cZ.1 ((h _ (bC (by omega) fun id hid=>by rw [Tr.get_set_ne _ _ (by omega)])).wcall fun so hso=>?_)
 rw [aI]
 obtain ⟨n',low',o',e1,h1,h2⟩:=dA hso
 rw [e1]
 simp +contextual +decide (maxSteps:=1000000) only [↓ wP,wQ,aZ]
 exact bC (by omega) (fun id hid=>by rw [h2 id (by omega),Tr.get_set_ne _ _ (by omega)])
theorem SD {O:bX} (ho:∀ a σ,O 142 a σ=none) (ho':∀ a σ,O 134 a σ=none) (ho1:∀ a σ,O 135 a σ=none) (ho2:∀ a σ,O 104 a σ=none)
 (g:FuncId) (cap:List AV) (a:AV) (xs:List AV) (ha:Sl a xs) (m:Nat) (hlen:xs.length=m) (c:Nat->List AV) (hix:∀ i,i<m->∀ {q:IntKind} {d:Option AV},fK (some 4) xs (.int q (i:Nat)) d=some (.pf (.agg (c i)))) (hcl:∀ i,i<m->(c i).length=4) (hcc:∀ i,i<m->(c i).all AV.isCell=true) (p:Nat->Bool) (most:Nat) (s:Sto)
 (h:∀ i,i<m->∀ s',Sim s s'->RetS Tryz.prog O (.func (.func g) [] cap) [.agg (c i)] s' (.bool (p i))):RetS Tryz.prog O (.func (.func 104) [] []) [a,.int .i64 (most:Nat),.func (.func g) [] cap] s (.bool (decide (m<=most)&&(List.range m).all p)):=by
 refine RetS.run (first:=[]) (args:=[a,.int .i64 (most:Nat),.func (.func g) [] cap]) (cap:=[]) aL (ho2 _ _) (by kernel_rfl) Tryz.func104 Tryz.ntmps104 Tryz.results104 rfl rfl ?_
 obtain ⟨n0,low0,o0⟩:=s
 show Wk _ _ _ _ ⟨17,none,104,Tr.leaf.lay 0 [a,.int .i64 (most:Nat),.func (.func g) [] cap],[],⟨n0,n0,o0⟩,.no⟩ _
 have d1:(((m:Nat):Int)<=(most:Nat))=(m<=most):=propext (by omega)
 by_cases hl:m<=most
 ·simp +contextual +decide (maxSteps:=1000000) only [↓ wP,wQ,tf,ne_eq,ha.len,hlen,d1,hl,ho',aP]
  refine bQ (ho' _ _) ((HJ ho ho' 135 [.ptr n0 0 0] a xs ha m hlen c hix hcl (fun i=>!p i) ⟨n0+1,n0,o0.set n0 (aU 0 [.func (.func g) [] cap])⟩ fun i hi s' hs=>?_).wcall fun so hso=>?_)
  ·refine OA ho1 g cap (c i) (hcl i hi) (hcc i hi) (p i) n0 s' (hs.get ?_) fun s'' hs'=>h i hi s'' ?_
   ·rw [Sto.get_mk (by omega),Tr.get_set_same]
   ·exact (bC (by omega) fun id hid=>by rw [Tr.get_set_ne _ _ (by omega)]:Sim ⟨n0,low0,o0⟩ ⟨n0+1,n0,o0.set n0 (aU 0 [.func (.func g) [] cap])⟩).trans (hs.trans hs')
  ·rw [aI]
   obtain ⟨n',low',o',e1,h1,h2⟩:=dA hso
   rw [e1]
   have hany:((List.range m).any fun x=>!p x) = !(List.range m).all p:=by rw [<-List.not_all_eq_any_not]
   rw [hany]
   simp +contextual +decide (maxSteps:=1000000) only [↓ wP,wQ,ne_eq,aZ,Bool.not_not]
   exact bC (by omega) (fun id hid=>by rw [h2 id (by omega),Tr.get_set_ne _ _ (by omega)])
 ·simp +contextual +decide (maxSteps:=1000000) only [↓ wP,wQ,tf,ne_eq,ha.len,hlen,d1,hl,aZ]
  exact ⟨by simp,bC (by omega) (fun id hid=>by rw [Tr.get_set_ne _ _ (by omega)])⟩
theorem SE {O:bX} (ho:∀ a σ,O 144 a σ=none) (g:FuncId) (cap:List AV) (a:AV) (xs:List AV) (ha:Sl a xs) (m:Nat) (hlen:xs.length=m) (c:Nat->List AV) (hix:∀ i,i<m->∀ {q:IntKind} {d:Option AV},fK (some 2) xs (.int q (i:Nat)) d=some (.pf (.agg (c i)))) (hcl:∀ i,i<m->(c i).length=2) (p:Nat->Bool) (s:Sto)
 (h:∀ i,i<m->∀ s',Sim s s'->RetS Tryz.prog O (.func (.func g) [] cap) [.agg (c i)] s' (.bool (p i))):RetS Tryz.prog O (.func (.func 144) [] []) [a,.func (.func g) [] cap] s (.int .i64 (match (List.range m).findIdx? p with | some i=>((i:Nat):Int) | none=>-1)):=by
 have hll:=ha.2
 refine RetS.run (first:=[]) (args:=[a,.func (.func g) [] cap]) (cap:=[]) aL (ho _ _) (by kernel_rfl) Tryz.func144 Tryz.ntmps144 Tryz.results144 rfl rfl ?_
 obtain ⟨n0,low0,o0⟩:=s
 show Wk _ _ _ _ ⟨19,none,144,Tr.leaf.lay 0 [a,.func (.func g) [] cap],[],⟨n0,n0,o0⟩,.no⟩ _
 simp +contextual +decide (maxSteps:=1000000) only [↓ wP,wQ,tf,ne_eq,ha.len,hlen]
 refine bE (fun i e=>∃ t n low o,e=⟨19,none,144,t,[],⟨n,low,o⟩,.no⟩/\t.val 0=a/\t.val 1=.func (.func g) [] cap/\t.val 7=.int .i64 (m:Nat)/\t.val 8=.int .i64 (i:Nat)/\i<=m/\(∀ j,j<i->p j=false)/\n0<=n/\∀ id,id<n0->o.get id=o0.get id) (fun i=>m-i) 0
  ⟨_,n0,n0,o0,rfl,by simp +decide only [↓ aB,dJ,cL],by simp +decide only [↓ aB,dJ,cL],by simp +decide only [↓ aB],by simp +decide only [↓ aB];rfl,Nat.zero_le _,fun j hj=>by omega,Nat.le_refl _,fun _ _=>rfl⟩ ?_
 rintro i _ ⟨t,n,low,o,rfl,t0,t1,t7,t8,hi,hpre,hn,hoth⟩
 by_cases hlt:i<m
 ·have d1:((i:Int)<(m:Nat))=True:=eq_true (by omega)
  have d5:=aJ (i:=i) (by omega)
  have x1:=fun {q d}=>hix i hlt (q:=q) (d:=d)
  have x2:=hcl i hlt
  have x3:=h i hlt
  generalize c i=cs at *
  simp +contextual +decide (maxSteps:=1000000) only [↓ wP,wQ,tf,ne_eq,ha.idx,t0,t1,t7,t8,d1,x1,x2]
  refine cZ.1 ((x3 ⟨n,low,o⟩ (bC (low:=low0) hn hoth)).wcall fun so hso=>?_)
  rw [aI]
  obtain ⟨n',low',o',e1,h1,h2⟩:=dA hso
  rw [e1]
  cases hp:p i with
  | true=>
    have hf:(List.range m).findIdx? p=some i:=by
     rw [List.findIdx?_eq_some_iff_getElem]
     refine ⟨by simpa using hlt,by simpa using hp,fun j hj=>?_⟩
     have:=hpre j hj
     simpa using this
    simp +contextual +decide (maxSteps:=1000000) only [↓ wP,wQ,ne_eq,aZ,hf]
    exact bC (by omega) (fun id hid=>by rw [h2 id (by omega)];exact hoth id hid)
  | false=>
    simp +contextual +decide (maxSteps:=1000000) only [↓ wP,wQ,ne_eq,t8,d5]
    exact ⟨i+1,by show _-_<_-_;omega,_,n',low',o',rfl,by simp +decide only [↓ aB,t0],by simp +decide only [↓ aB,t1],by simp +decide only [↓ aB,t7],by simp +decide only [↓ aB],hlt,fun j hj=>by
     rcases Nat.lt_succ_iff_lt_or_eq.1 hj with hj | rfl
     ·exact hpre j hj
     ·exact hp,by omega,fun id hid=>by rw [h2 id (by omega)];exact hoth id hid⟩
 ·have:i=m:=by omega
  subst this
  have d1:(((i:Nat):Int)<(i:Nat))=False:=eq_false (by omega)
  have hf:(List.range i).findIdx? p=none:=by
   rw [List.findIdx?_eq_none_iff]
   intro x hx
   exact hpre x (List.mem_range.1 hx)
  simp +contextual +decide (maxSteps:=1000000) only [↓ wP,wQ,t7,t8,d1,aZ,hf]
  exact bC hn hoth
theorem HK {O:bX} (ho:∀ a σ,O 144 a σ=none) (ho':∀ a σ,O 138 a σ=none) (g:FuncId) (cap:List AV) (a:AV) (xs:List AV) (ha:Sl a xs) (m:Nat) (hlen:xs.length=m) (c:Nat->List AV) (hix:∀ i,i<m->∀ {q:IntKind} {d:Option AV},fK (some 2) xs (.int q (i:Nat)) d=some (.pf (.agg (c i)))) (hcl:∀ i,i<m->(c i).length=2) (p:Nat->Bool) (s:Sto)
 (h:∀ i,i<m->∀ s',Sim s s'->RetS Tryz.prog O (.func (.func g) [] cap) [.agg (c i)] s' (.bool (p i))):RetS Tryz.prog O (.func (.func 138) [] []) [a,.func (.func g) [] cap] s (.bool ((List.range m).any p)):=by
 have hx:=fun s' hs=>SE ho g cap a xs ha m hlen c hix hcl p s' fun x hx s'' hs'=>h x hx s'' (Sim.trans (b:=s') hs hs')
 refine RetS.run (first:=[]) (args:=[a,.func (.func g) [] cap]) (cap:=[]) aL (ho' _ _) (by kernel_rfl) Tryz.func138 Tryz.ntmps138 Tryz.results138 rfl rfl ?_
 obtain ⟨n0,low0,o0⟩:=s
 show Wk _ _ _ _ ⟨9,none,138,Tr.leaf.lay 0 [a,.func (.func g) [] cap],[],⟨n0,n0,o0⟩,.no⟩ _
 simp +contextual +decide (maxSteps:=1000000) only [↓ wP,wQ,ne_eq,ho,aP]
 refine bQ (ho _ _) ((hx ⟨n0,n0,o0⟩ (bC (Nat.le_refl _) fun _ _=>rfl)).wcall fun so hso=>?_)
 rw [aI]
 obtain ⟨n',low',o',e1,h1,h2⟩:=dA hso
 rw [e1]
 cases hf:(List.range m).findIdx? p with
 | none=>
   have hany:(List.range m).any p=false:=by
    rw [List.any_eq_false];intro x hx;have:=List.findIdx?_eq_none_iff.1 hf x hx;simp [this]
   simp +contextual +decide (maxSteps:=1000000) only [↓ wP,wQ,aZ,hany]
   exact bC h1 h2
 | some i=>
   have hany:(List.range m).any p=true:=by
    obtain ⟨h3,h4,_⟩:=List.findIdx?_eq_some_iff_getElem.1 hf
    rw [List.any_eq_true];exact ⟨_,List.getElem_mem h3,h4⟩
   simp +contextual +decide (maxSteps:=1000000) only [↓ wP,wQ,aZ,hany,show ((0:Int)<=(i:Nat))=True from eq_true (by omega)]
   exact bC h1 h2
theorem OB {O:bX} (ho1:∀ a σ,O 139 a σ=none) (g:FuncId) (cap:List AV) (cs:List AV) (hcs:cs.length=2) (hcc:cs.all AV.isCell=true) (b:Bool) (c:Nat) (s:Sto) (hc:s.get c=some (aU 0 [.func (.func g) [] cap]))
 (h:∀ s',Sim s s'->RetS Tryz.prog O (.func (.func g) [] cap) [.agg cs] s' (.bool b)):RetS Tryz.prog O (.func (.func 139) [] [.ptr c 0 0]) [.agg cs] s (.bool !b):=by
 refine RetS.run (first:=[]) (args:=[.agg cs]) (cap:=[.ptr c 0 0]) aL (ho1 _ _) (by kernel_rfl) Tryz.func139 Tryz.ntmps139 Tryz.results139 rfl rfl ?_
 obtain ⟨n0,low0,o0⟩:=s
 have hcn:c<n0:=Sto.get_lt hc
 rw [Sto.get_mk hcn]at hc
 have f0:=bA hcn
 have hz:0+2<=cs.length:=by omega
 show Wk _ _ _ _ ⟨8,none,139,Tr.leaf.lay 0 [.agg cs,.ptr c 0 0],[],⟨n0,n0,o0⟩,.no⟩ _
 simp +contextual +decide (maxSteps:=1000000) only [↓ wP,wQ,tf,Nat.reduceAdd,ne_eq,hc,hcc,hcs,f0,cS,show aG cs 0 2=cs from by unfold aG;rw [List.drop_zero,List.take_of_length_le (by omega)]]
 refine cZ.1 ((h _ (bC (by omega) fun id hid=>by rw [Tr.get_set_ne _ _ (by omega)])).wcall fun so hso=>?_)
 rw [aI]
 obtain ⟨n',low',o',e1,h1,h2⟩:=dA hso
 rw [e1]
 simp +contextual +decide (maxSteps:=1000000) only [↓ wP,wQ,aZ]
 exact bC (by omega) (fun id hid=>by rw [h2 id (by omega),Tr.get_set_ne _ _ (by omega)])
theorem SF {O:bX} (ho:∀ a σ,O 144 a σ=none) (ho':∀ a σ,O 138 a σ=none) (ho1:∀ a σ,O 139 a σ=none) (ho2:∀ a σ,O 106 a σ=none)
 (g:FuncId) (cap:List AV) (a:AV) (xs:List AV) (ha:Sl a xs) (m:Nat) (hlen:xs.length=m) (c:Nat->List AV) (hix:∀ i,i<m->∀ {q:IntKind} {d:Option AV},fK (some 2) xs (.int q (i:Nat)) d=some (.pf (.agg (c i)))) (hcl:∀ i,i<m->(c i).length=2) (hcc:∀ i,i<m->(c i).all AV.isCell=true) (p:Nat->Bool) (most:Nat) (s:Sto)
 (h:∀ i,i<m->∀ s',Sim s s'->RetS Tryz.prog O (.func (.func g) [] cap) [.agg (c i)] s' (.bool (p i))):RetS Tryz.prog O (.func (.func 106) [] []) [a,.int .i64 (most:Nat),.func (.func g) [] cap] s (.bool (decide (m<=most)&&(List.range m).all p)):=by
 refine RetS.run (first:=[]) (args:=[a,.int .i64 (most:Nat),.func (.func g) [] cap]) (cap:=[]) aL (ho2 _ _) (by kernel_rfl) Tryz.func106 Tryz.ntmps106 Tryz.results106 rfl rfl ?_
 obtain ⟨n0,low0,o0⟩:=s
 show Wk _ _ _ _ ⟨17,none,106,Tr.leaf.lay 0 [a,.int .i64 (most:Nat),.func (.func g) [] cap],[],⟨n0,n0,o0⟩,.no⟩ _
 have d1:(((m:Nat):Int)<=(most:Nat))=(m<=most):=propext (by omega)
 by_cases hl:m<=most
 ·simp +contextual +decide (maxSteps:=1000000) only [↓ wP,wQ,tf,ne_eq,ha.len,hlen,d1,hl,ho',aP]
  refine bQ (ho' _ _) ((HK ho ho' 139 [.ptr n0 0 0] a xs ha m hlen c hix hcl (fun i=>!p i) ⟨n0+1,n0,o0.set n0 (aU 0 [.func (.func g) [] cap])⟩ fun i hi s' hs=>?_).wcall fun so hso=>?_)
  ·refine OB ho1 g cap (c i) (hcl i hi) (hcc i hi) (p i) n0 s' (hs.get ?_) fun s'' hs'=>h i hi s'' ?_
   ·rw [Sto.get_mk (by omega),Tr.get_set_same]
   ·exact (bC (by omega) fun id hid=>by rw [Tr.get_set_ne _ _ (by omega)]:Sim ⟨n0,low0,o0⟩ ⟨n0+1,n0,o0.set n0 (aU 0 [.func (.func g) [] cap])⟩).trans (hs.trans hs')
  ·rw [aI]
   obtain ⟨n',low',o',e1,h1,h2⟩:=dA hso
   rw [e1]
   have hany:((List.range m).any fun x=>!p x) = !(List.range m).all p:=by rw [<-List.not_all_eq_any_not]
   rw [hany]
   simp +contextual +decide (maxSteps:=1000000) only [↓ wP,wQ,ne_eq,aZ,Bool.not_not]
   exact bC (by omega) (fun id hid=>by rw [h2 id (by omega),Tr.get_set_ne _ _ (by omega)])
 ·simp +contextual +decide (maxSteps:=1000000) only [↓ wP,wQ,tf,ne_eq,ha.len,hlen,d1,hl,aZ]
  exact ⟨by simp,bC (by omega) (fun id hid=>by rw [Tr.get_set_ne _ _ (by omega)])⟩
theorem SG {O:bX} (ho:∀ a σ,O 143 a σ=none) (g:FuncId) (cap:List AV) (a:AV) (xs:List AV) (ha:Sl a xs) (m:Nat) (hlen:xs.length=m) (c:Nat->AV) (hix:∀ i,i<m->∀ {q:IntKind} {d:Option AV},fK (some 1) xs (.int q (i:Nat)) d=some (.pf (c i))) (hcl:∀ i,i<m->(c i).isCell=true) (p:Nat->Bool) (s:Sto)
 (h:∀ i,i<m->∀ s',Sim s s'->RetS Tryz.prog O (.func (.func g) [] cap) [c i] s' (.bool (p i))):RetS Tryz.prog O (.func (.func 143) [] []) [a,.func (.func g) [] cap] s (.int .i64 (match (List.range m).findIdx? p with | some i=>((i:Nat):Int) | none=>-1)):=by
 have hll:=ha.2
 refine RetS.run (first:=[]) (args:=[a,.func (.func g) [] cap]) (cap:=[]) aL (ho _ _) (by kernel_rfl) Tryz.func143 Tryz.ntmps143 Tryz.results143 rfl rfl ?_
 obtain ⟨n0,low0,o0⟩:=s
 show Wk _ _ _ _ ⟨19,none,143,Tr.leaf.lay 0 [a,.func (.func g) [] cap],[],⟨n0,n0,o0⟩,.no⟩ _
 simp +contextual +decide (maxSteps:=1000000) only [↓ wP,wQ,tf,ne_eq,ha.len,hlen]
 refine bE (fun i e=>∃ t n low o,e=⟨19,none,143,t,[],⟨n,low,o⟩,.no⟩/\t.val 0=a/\t.val 1=.func (.func g) [] cap/\t.val 7=.int .i64 (m:Nat)/\t.val 8=.int .i64 (i:Nat)/\i<=m/\(∀ j,j<i->p j=false)/\n0<=n/\∀ id,id<n0->o.get id=o0.get id) (fun i=>m-i) 0
  ⟨_,n0,n0,o0,rfl,by simp +decide only [↓ aB,dJ,cL],by simp +decide only [↓ aB,dJ,cL],by simp +decide only [↓ aB],by simp +decide only [↓ aB];rfl,Nat.zero_le _,fun j hj=>by omega,Nat.le_refl _,fun _ _=>rfl⟩ ?_
 rintro i _ ⟨t,n,low,o,rfl,t0,t1,t7,t8,hi,hpre,hn,hoth⟩
 by_cases hlt:i<m
 ·have d1:((i:Int)<(m:Nat))=True:=eq_true (by omega)
  have d5:=aJ (i:=i) (by omega)
  have x1:=fun {q d}=>hix i hlt (q:=q) (d:=d)
  have x2:=hcl i hlt
  have x3:=h i hlt
  generalize c i=cs at *
  simp +contextual +decide (maxSteps:=1000000) only [↓ wP,wQ,tf,ne_eq,ha.idx,t0,t1,t7,t8,d1,x1,x2]
  refine cZ.1 ((x3 ⟨n,low,o⟩ (bC (low:=low0) hn hoth)).wcall fun so hso=>?_)
  rw [aI]
  obtain ⟨n',low',o',e1,h1,h2⟩:=dA hso
  rw [e1]
  cases hp:p i with
  | true=>
    have hf:(List.range m).findIdx? p=some i:=by
     rw [List.findIdx?_eq_some_iff_getElem]
     refine ⟨by simpa using hlt,by simpa using hp,fun j hj=>?_⟩
     have:=hpre j hj
     simpa using this
    simp +contextual +decide (maxSteps:=1000000) only [↓ wP,wQ,ne_eq,aZ,hf]
    exact bC (by omega) (fun id hid=>by rw [h2 id (by omega)];exact hoth id hid)
  | false=>
    simp +contextual +decide (maxSteps:=1000000) only [↓ wP,wQ,ne_eq,t8,d5]
    exact ⟨i+1,by show _-_<_-_;omega,_,n',low',o',rfl,by simp +decide only [↓ aB,t0],by simp +decide only [↓ aB,t1],by simp +decide only [↓ aB,t7],by simp +decide only [↓ aB],hlt,fun j hj=>by
     rcases Nat.lt_succ_iff_lt_or_eq.1 hj with hj | rfl
     ·exact hpre j hj
     ·exact hp,by omega,fun id hid=>by rw [h2 id (by omega)];exact hoth id hid⟩
 ·have:i=m:=by omega
  subst this
  have d1:(((i:Nat):Int)<(i:Nat))=False:=eq_false (by omega)
  have hf:(List.range i).findIdx? p=none:=by
   rw [List.findIdx?_eq_none_iff]
   intro x hx
   exact hpre x (List.mem_range.1 hx)
  simp +contextual +decide (maxSteps:=1000000) only [↓ wP,wQ,t7,t8,d1,aZ,hf]
  exact bC hn hoth
theorem HL {O:bX} (ho:∀ a σ,O 143 a σ=none) (ho':∀ a σ,O 136 a σ=none) (g:FuncId) (cap:List AV) (a:AV) (xs:List AV) (ha:Sl a xs) (m:Nat) (hlen:xs.length=m) (c:Nat->AV) (hix:∀ i,i<m->∀ {q:IntKind} {d:Option AV},fK (some 1) xs (.int q (i:Nat)) d=some (.pf (c i))) (hcl:∀ i,i<m->(c i).isCell=true) (p:Nat->Bool) (s:Sto)
 (h:∀ i,i<m->∀ s',Sim s s'->RetS Tryz.prog O (.func (.func g) [] cap) [c i] s' (.bool (p i))):RetS Tryz.prog O (.func (.func 136) [] []) [a,.func (.func g) [] cap] s (.bool ((List.range m).any p)):=by
 have hx:=fun s' hs=>SG ho g cap a xs ha m hlen c hix hcl p s' fun x hx s'' hs'=>h x hx s'' (Sim.trans (b:=s') hs hs')
 refine RetS.run (first:=[]) (args:=[a,.func (.func g) [] cap]) (cap:=[]) aL (ho' _ _) (by kernel_rfl) Tryz.func136 Tryz.ntmps136 Tryz.results136 rfl rfl ?_
 obtain ⟨n0,low0,o0⟩:=s
 show Wk _ _ _ _ ⟨9,none,136,Tr.leaf.lay 0 [a,.func (.func g) [] cap],[],⟨n0,n0,o0⟩,.no⟩ _
 simp +contextual +decide (maxSteps:=1000000) only [↓ wP,wQ,ne_eq,ho,aP]
 refine bQ (ho _ _) ((hx ⟨n0,n0,o0⟩ (bC (Nat.le_refl _) fun _ _=>rfl)).wcall fun so hso=>?_)
 rw [aI]
 obtain ⟨n',low',o',e1,h1,h2⟩:=dA hso
 rw [e1]
 cases hf:(List.range m).findIdx? p with
 | none=>
   have hany:(List.range m).any p=false:=by
    rw [List.any_eq_false];intro x hx;have:=List.findIdx?_eq_none_iff.1 hf x hx;simp [this]
   simp +contextual +decide (maxSteps:=1000000) only [↓ wP,wQ,aZ,hany]
   exact bC h1 h2
 | some i=>
   have hany:(List.range m).any p=true:=by
    obtain ⟨h3,h4,_⟩:=List.findIdx?_eq_some_iff_getElem.1 hf
    rw [List.any_eq_true];exact ⟨_,List.getElem_mem h3,h4⟩
   simp +contextual +decide (maxSteps:=1000000) only [↓ wP,wQ,aZ,hany,show ((0:Int)<=(i:Nat))=True from eq_true (by omega)]
   exact bC h1 h2
theorem OC {O:bX} (ho1:∀ a σ,O 137 a σ=none) (g:FuncId) (cap:List AV) (cs:AV) (b:Bool) (c:Nat) (s:Sto) (hc:s.get c=some (aU 0 [.func (.func g) [] cap]))
 (h:∀ s',Sim s s'->RetS Tryz.prog O (.func (.func g) [] cap) [cs] s' (.bool b)):RetS Tryz.prog O (.func (.func 137) [] [.ptr c 0 0]) [cs] s (.bool !b):=by
 refine RetS.run (first:=[]) (args:=[cs]) (cap:=[.ptr c 0 0]) aL (ho1 _ _) (by kernel_rfl) Tryz.func137 Tryz.ntmps137 Tryz.results137 rfl rfl ?_
 obtain ⟨n0,low0,o0⟩:=s
 have hcn:c<n0:=Sto.get_lt hc
 rw [Sto.get_mk hcn]at hc
 have f0:=bA hcn
 show Wk _ _ _ _ ⟨8,none,137,Tr.leaf.lay 0 [cs,.ptr c 0 0],[],⟨n0,n0,o0⟩,.no⟩ _
 simp +contextual +decide (maxSteps:=1000000) only [↓ wP,wQ,tf,ne_eq,hc,f0,cS]
 refine cZ.1 ((h _ (bC (by omega) fun id hid=>rfl)).wcall fun so hso=>?_)
 rw [aI]
 obtain ⟨n',low',o',e1,h1,h2⟩:=dA hso
 rw [e1]
 simp +contextual +decide (maxSteps:=1000000) only [↓ wP,wQ,aZ]
 exact bC (by omega) h2
theorem ED {O:bX} (ho:∀ a σ,O 143 a σ=none) (ho':∀ a σ,O 136 a σ=none) (ho1:∀ a σ,O 137 a σ=none) (ho2:∀ a σ,O 105 a σ=none)
 (g:FuncId) (cap:List AV) (a:AV) (xs:List AV) (ha:Sl a xs) (m:Nat) (hlen:xs.length=m) (c:Nat->AV) (hix:∀ i,i<m->∀ {q:IntKind} {d:Option AV},fK (some 1) xs (.int q (i:Nat)) d=some (.pf (c i))) (hcl:∀ i,i<m->(c i).isCell=true) (p:Nat->Bool) (most:Nat) (s:Sto)
 (h:∀ i,i<m->∀ s',Sim s s'->RetS Tryz.prog O (.func (.func g) [] cap) [c i] s' (.bool (p i))):RetS Tryz.prog O (.func (.func 105) [] []) [a,.int .i64 (most:Nat),.func (.func g) [] cap] s (.bool (decide (m<=most)&&(List.range m).all p)):=by
 refine RetS.run (first:=[]) (args:=[a,.int .i64 (most:Nat),.func (.func g) [] cap]) (cap:=[]) aL (ho2 _ _) (by kernel_rfl) Tryz.func105 Tryz.ntmps105 Tryz.results105 rfl rfl ?_
 obtain ⟨n0,low0,o0⟩:=s
 show Wk _ _ _ _ ⟨17,none,105,Tr.leaf.lay 0 [a,.int .i64 (most:Nat),.func (.func g) [] cap],[],⟨n0,n0,o0⟩,.no⟩ _
 have d1:(((m:Nat):Int)<=(most:Nat))=(m<=most):=propext (by omega)
 by_cases hl:m<=most
 ·simp +contextual +decide (maxSteps:=1000000) only [↓ wP,wQ,tf,ne_eq,ha.len,hlen,d1,hl,ho',aP]
  refine bQ (ho' _ _) ((HL ho ho' 137 [.ptr n0 0 0] a xs ha m hlen c hix hcl (fun i=>!p i) ⟨n0+1,n0,o0.set n0 (aU 0 [.func (.func g) [] cap])⟩ fun i hi s' hs=>?_).wcall fun so hso=>?_)
  ·refine OC ho1 g cap (c i) (p i) n0 s' (hs.get ?_) fun s'' hs'=>h i hi s'' ?_
   ·rw [Sto.get_mk (by omega),Tr.get_set_same]
   ·exact (bC (by omega) fun id hid=>by rw [Tr.get_set_ne _ _ (by omega)]:Sim ⟨n0,low0,o0⟩ ⟨n0+1,n0,o0.set n0 (aU 0 [.func (.func g) [] cap])⟩).trans (hs.trans hs')
  ·rw [aI]
   obtain ⟨n',low',o',e1,h1,h2⟩:=dA hso
   rw [e1]
   have hany:((List.range m).any fun x=>!p x) = !(List.range m).all p:=by rw [<-List.not_all_eq_any_not]
   rw [hany]
   simp +contextual +decide (maxSteps:=1000000) only [↓ wP,wQ,ne_eq,aZ,Bool.not_not]
   exact bC (by omega) (fun id hid=>by rw [h2 id (by omega),Tr.get_set_ne _ _ (by omega)])
 ·simp +contextual +decide (maxSteps:=1000000) only [↓ wP,wQ,tf,ne_eq,ha.len,hlen,d1,hl,aZ]
  exact ⟨by simp,bC (by omega) (fun id hid=>by rw [Tr.get_set_ne _ _ (by omega)])⟩
end
end Go.Proofs.YtajngkkihadgfaaGreat
/-
 The reference of images: worlds that can be stored.
-/
namespace Go.Proofs.YtajngkkihadgfaaGreat
open Go.Abs Go Go.Abs.TryzF
noncomputable section
set_option maxRecDepth 10000
def EE:List AV->Option AV
 | [a,.int .i64 n]=>(bR a).map fun l=>.bool (mH n l)
 | _=>none
theorem AJ {a:AV} {l:List eZ} {n:Int} (h:bR a=some l):EE [a,.int .i64 n]=some (.bool (mH n l)):=by simp [EE,h]
theorem rbelow_ok:Abs.Ok Tryz.prog 125 EE:=by
 intro args v hg
 unfold EE at hg
 split at hg
 rotate_left
 ·cases hg
 rename_i a n
 obtain ⟨l,hl,rfl⟩:=Option.map_eq_some_iff.1 hg
 have ha:=cY hl
 have hlen:=ha.2
 simp only [List.length_map]at hlen
 refine aR (L:=[]) aH aL (by kernel_rfl) Tryz.func125 Tryz.ntmps125 Tryz.results125 rfl rfl (aC (eK hl).und (aC aO aE)) cA ?_
 simp +contextual +decide (maxSteps:=1000000) only [↓ wP,wQ]
 refine bE (fun i e=>∃ t,e=⟨27,none,125,t,[],⟨0,0,.leaf⟩,.no⟩/\t.val 0=a/\t.val 1=.int .i64 n/\t.val 5=.int .i64 (i:Nat)/\i<=l.length/\(l.take i).all (KI n)=true) (fun i=>l.length-i) 0 ⟨_,rfl,by simp +decide only [↓ aB,dJ,cL],by simp +decide only [↓ aB,dJ,cL],by simp +decide only [↓ aB];rfl,Nat.zero_le _,rfl⟩ ?_
 rintro i _ ⟨t,rfl,t0,t1,t5,hi,hok⟩
 by_cases hlt:i<l.length
 ·have d1:(i:Int)<(l.length:Nat):=by omega
  have d3:(0:Int)<=i:=by omega
  have d4:((i:Int)).toNat=i:=by omega
  have d5:=aJ (i:=i) (by omega)
  have htk:=gK (d:=default) hlt
  have hm:l.getD i default∈l:=by rw [bZ hlt];exact List.getElem_mem _
  have hx:∀ x:eZ,eH x=.agg [.int .i64 x.1,.int .i64 x.2]:=fun _=>rfl
  have hrf:KI n (l.getD i default) = !(decide ((l.getD i default).1=5)&&decide (n<=(l.getD i default).2)):=rfl
  by_cases h5:(l.getD i default).1=5
  ·by_cases hn:n<=(l.getD i default).2
   ·simp +contextual +decide (maxSteps:=1000000) only [↓ wP,wQ,tf,ne_eq,ha.len,ha.idx,t0,t1,t5,d1,d3,d4,fT lJ,hx,h5,hn]
    have:l.all (KI n)=false:=by rw [List.all_eq_false];exact ⟨_,hm,by rw [hrf,decide_eq_true h5,decide_eq_true hn];simp⟩
    rw [mH,this]
   ·simp +contextual +decide (maxSteps:=1000000) only [↓ wP,wQ,tf,ne_eq,ha.len,ha.idx,t0,t1,t5,d1,d3,d4,d5,fT lJ,hx,h5,hn]
    refine ⟨i+1,by show _-_<_-_;omega,_,rfl,by simp +decide only [↓ aB,t0],by simp +decide only [↓ aB,t1],by simp +decide only [↓ aB],hlt,?_⟩
    rw [htk,List.all_append,hok]
    simp only [List.all_cons,List.all_nil,hrf,hn];simp
  ·simp +contextual +decide (maxSteps:=1000000) only [↓ wP,wQ,tf,ne_eq,ha.len,ha.idx,t0,t5,d1,d3,d4,d5,fT lJ,hx,h5]
   refine ⟨i+1,by show _-_<_-_;omega,_,rfl,by simp +decide only [↓ aB,t0],by simp +decide only [↓ aB,t1],by simp +decide only [↓ aB],hlt,?_⟩
   rw [htk,List.all_append,hok]
   simp only [List.all_cons,List.all_nil,hrf,h5];simp
 ·have:i=l.length:=by omega
  subst this
  rw [List.take_length]at hok
  have d1:¬ ((l.length:Nat):Int)<(l.length:Nat):=by omega
  simp +contextual +decide (maxSteps:=1000000) only [↓ wP,wQ,tf,ne_eq,ha.len,t0,t5,d1]
  rw [mH,hok]
def uV:List AV->Option AV
 | [a,.int .i64 n]=>(dQ a).map fun o=>.bool (fO n o)
 | _=>none
theorem EF {a:AV} {o:Ob} {n:Int} (h:dQ a=some o):uV [a,.int .i64 n]=some (.bool (fO n o)):=by simp [uV,h]
set_option maxHeartbeats 1000000 in
theorem rinside_ok:Abs.Ok Tryz.prog 65 uV:=by
 intro args v hg
 unfold uV at hg
 split at hg
 rotate_left
 ·cases hg
 rename_i a n
 obtain ⟨o,ho,rfl⟩:=Option.map_eq_some_iff.1 hg
 have hund:=(lK ho).und
 obtain ⟨vs,fs,rfl,hvs,hfs⟩:=fH ho
 obtain ⟨xs,hsl,hlen,hat⟩:=EY hfs
 have cvs:=aX hvs
 have cfs:=hsl.cell
 have hll:=hsl.2
 refine aR (L:=[ent 125 EE]) (elist_cons rbelow_ok.ent aH) aL (by kernel_rfl) Tryz.func65 Tryz.ntmps65 Tryz.results65 rfl rfl (aC hund (aC aO aE)) cA ?_
 have hvv:=AJ (n:=n) hvs
 simp +contextual +decide (maxSteps:=1000000) only [↓ wP,wQ,Nat.reduceAdd,cvs,cfs]
 refine bE (fun i e=>∃ t n' low ob,e=⟨37,none,65,t,[],⟨n',low,ob⟩,.no⟩/\t.val 1=.int .i64 n/\t.val 2=.ptr 0 0 0/\t.val 5=.int .i64 (i:Nat)/\ob.get 0=some (aU 0 [.int .i64 o.form,.int .i64 o.n,vs,fs])/\0<n'/\i<=o.frs.length/\(o.frs.take i).all (NX n)=true) (fun i=>o.frs.length-i) 0
  ⟨_,1,0,_,rfl,by simp +decide only [↓ aB,dJ,cL],by simp +decide only [↓ aB],by simp +decide only [↓ aB];rfl,by simp +decide only [↓ aB],by omega,Nat.zero_le _,rfl⟩ ?_
 rintro i _ ⟨t,n',low,ob,rfl,t1,t2,t5,hg0,hn,hi,hall⟩
 have f0:=bA (i:=0) (n:=n') hn
 have d1:((i:Int)<(xs.length:Nat))=(i<o.frs.length):=propext (by omega)
 by_cases hlt:i<o.frs.length
 ·have d5:=aJ (i:=i) (by omega)
  have htk:=gK (d:=default) hlt
  have hm:o.frs.getD i default∈o.frs:=by rw [bZ hlt];exact List.getElem_mem _
  obtain ⟨e,v,hix,he,hv⟩:=hat i hlt
  have ce:=aX he
  have cv:=aX hv
  have e1:=AJ (n:=n) he
  have e2:=AJ (n:=n) hv
  have hfr:NX n (o.frs.getD i default)=(mH n (o.frs.getD i default).env&&mH n (o.frs.getD i default).vals):=rfl
  generalize hxd:o.frs.getD i default=f at *
  have hbad:NX n f=false->fO n o=false:=fun h=>by
   have:o.frs.all (NX n)=false:=by rw [List.all_eq_false];exact ⟨_,hm,by rw [h];simp⟩
   rw [fO,this];rfl
  cases k1:mH n f.env with
  | false=>
    simp +contextual +decide (maxSteps:=1000000) only [↓ wP,wQ,tf,Nat.reduceAdd,ne_eq,t1,t2,t5,hg0,f0,hsl.len,hsl.idx,hix,d1,hlt,ce,e1,k1]
    rw [hbad (by rw [hfr,k1];rfl)]
  | true=>
  cases k2:mH n f.vals with
  | false=>
    simp +contextual +decide (maxSteps:=1000000) only [↓ wP,wQ,tf,Nat.reduceAdd,ne_eq,t1,t2,t5,hg0,f0,hsl.len,hsl.idx,hix,d1,hlt,ce,cv,e1,e2,k1,k2]
    rw [hbad (by rw [hfr,k1,k2];rfl)]
  | true=>
    simp +contextual +decide (maxSteps:=1000000) only [↓ wP,wQ,tf,Nat.reduceAdd,ne_eq,t1,t2,t5,hg0,f0,hsl.len,hsl.idx,hix,d1,hlt,d5,ce,cv,e1,e2,k1,k2]
    refine ⟨i+1,by show _-_<_-_;omega,_,_,_,_,rfl,by simp +decide only [↓ aB,t1],by simp +decide only [↓ aB,t2],by simp +decide only [↓ aB],hg0,hn,hlt,?_⟩
    rw [htk,List.all_append,hall]
    simp only [List.all_cons,List.all_nil,hfr,k1,k2];rfl
 ·have:i=o.frs.length:=by omega
  subst this
  rw [List.take_length]at hall
  simp +contextual +decide (maxSteps:=1000000) only [↓ wP,wQ,tf,Nat.reduceAdd,ne_eq,t1,t2,t5,hg0,f0,hsl.len,d1,hvv,show (o.frs.length<o.frs.length)=False from eq_false (by omega)]
  rw [fO,hall];rfl
def uW:List AV->Option AV
 | [a]=>(jA a).map fun w=>.bool (xD w)
 | _=>none
theorem EG {a:AV} {w:Wd} (h:jA a=some w):uW [a]=some (.bool (xD w)):=by simp [uW,h]
theorem yG {w:Wd}:xD w=true↔w.objs.length<=120/\w.tasks.length<=120/\w.outs.length<=100/\w.ins.length<=50/\jE w.used 0 1073741824=true/\
 w.objs.all (CG w.objs.length)=true/\w.tasks.all (fun t=>jE t 0 ((w.objs.length:Int)-1))=true/\w.outs.all kU=true/\w.ins.all dF=true:=by
 simp only [xD,Bool.and_eq_true,decide_eq_true_eq,and_assoc]
theorem kF {w:Wd} (h:¬ (w.objs.length<=120/\w.tasks.length<=120/\w.outs.length<=100/\w.ins.length<=50/\jE w.used 0 1073741824=true/\
 w.objs.all (CG w.objs.length)=true/\w.tasks.all (fun t=>jE t 0 ((w.objs.length:Int)-1))=true/\w.outs.all kU=true/\w.ins.all dF=true)):xD w=false:=by
 cases hk:xD w with
 | false=>rfl
 | true=>exact absurd (yG.1 hk) h
theorem uX {α:Type} {l:List α} {p:α->Bool} {x:α} (hm:x∈l) (h:p x=false):¬ l.all p=true:=by
 rw [List.all_eq_true];intro h';rw [h' x hm]at h;cases h
theorem iQ {α:Type} {l:List α} {i:Nat} {d:α} (h:i<l.length):l.getD i d∈l:=by rw [bZ h];exact List.getElem_mem _
theorem yH {α:Type} {l:List α} {i:Nat} {d:α} {p:α->Bool} (h:i<l.length) (h1:(l.take i).all p=true) (h2:p (l.getD i d)=true):(l.take (i+1)).all p=true:=by
 rw [gK (d:=d) h,List.all_append,h1,Bool.true_and,List.all_cons,h2,List.all_nil];rfl
abbrev LFo:List iW:=[ent 62 RA,ent 38 iT,ent 65 uV]
set_option maxHeartbeats 4000000 in
theorem rFormed_ok:Abs.Ok Tryz.prog 48 uW:=by
 intro args v hg
 match args,hg with
 | [a],hg=>
   obtain ⟨w,hw,rfl⟩:=Option.map_eq_some_iff.1 hg
   have hund:=(oZ hw).und
   obtain ⟨os,ts,us,is,rfl,h1,h2,h3,h4,c1,c2,c3,c4⟩:=nC hw
   obtain ⟨xs,c,hsl,hlen,hat⟩:=oM h1
   have s2:=fD h2
   have s3:=cY h3
   have s4:=fD h4
   have hll:=hsl.2
   have hl2:=s2.2
   have hl3:=s3.2
   have hl4:=s4.2
   rw [List.length_map]at hl2 hl3 hl4
   refine aR (L:=LFo) (elist_cons rIn_ok.ent (elist_cons rstorable_ok.ent (elist_cons rinside_ok.ent aH))) aL (by kernel_rfl) Tryz.func48 Tryz.ntmps48 Tryz.results48 rfl rfl (aC hund aE) cA ?_
   have q1:(120<((w.objs.length:Nat):Int))=(120<w.objs.length):=propext (by omega)
   have q2:(120<((w.tasks.length:Nat):Int))=(120<w.tasks.length):=propext (by omega)
   have q3:(100<((w.outs.length:Nat):Int))=(100<w.outs.length):=propext (by omega)
   have q4:(50<((w.ins.length:Nat):Int))=(50<w.ins.length):=propext (by omega)
   have hno:¬ (w.objs.length<=120/\w.tasks.length<=120/\w.outs.length<=100/\w.ins.length<=50/\jE w.used 0 1073741824=true)->xD w=false:=fun h=>kF fun h'=>h ⟨h'.1,h'.2.1,h'.2.2.1,h'.2.2.2.1,h'.2.2.2.2.1⟩
   by_cases k1:120<w.objs.length
   ·simp +contextual +decide (maxSteps:=1000000) only [↓ wP,wQ,tf,Nat.reduceAdd,ne_eq,c1,c2,c3,c4,hsl.len,hlen,q1,k1]
    rw [hno fun h=>by omega]
   by_cases k2:120<w.tasks.length
   ·simp +contextual +decide (maxSteps:=1000000) only [↓ wP,wQ,tf,Nat.reduceAdd,ne_eq,c1,c2,c3,c4,hsl.len,hlen,s2.len,q1,k1,q2,k2]
    rw [hno fun h=>by omega]
   by_cases k3:100<w.outs.length
   ·simp +contextual +decide (maxSteps:=1000000) only [↓ wP,wQ,tf,Nat.reduceAdd,ne_eq,c1,c2,c3,c4,hsl.len,hlen,s2.len,s3.len,q1,k1,q2,k2,q3,k3]
    rw [hno fun h=>by omega]
   by_cases k4:50<w.ins.length
   ·simp +contextual +decide (maxSteps:=1000000) only [↓ wP,wQ,tf,Nat.reduceAdd,ne_eq,c1,c2,c3,c4,hsl.len,hlen,s2.len,s3.len,s4.len,q1,k1,q2,k2,q3,k3,q4,k4]
    rw [hno fun h=>by omega]
   cases k5:jE w.used 0 1073741824 with
   | false=>
     simp +contextual +decide (maxSteps:=1000000) only [↓ wP,wQ,tf,Nat.reduceAdd,ne_eq,c1,c2,c3,c4,hsl.len,hlen,s2.len,s3.len,s4.len,q1,k1,q2,k2,q3,k3,q4,k4,bW,k5]
     rw [hno fun h=>by rw [k5]at h;cases h.2.2.2.2]
   | true=>
   simp +contextual +decide (maxSteps:=1000000) only [↓ wP,wQ,tf,Nat.reduceAdd,ne_eq,c1,c2,c3,c4,hsl.len,hlen,s2.len,s3.len,s4.len,q1,k1,q2,k2,q3,k3,q4,k4,bW,k5]
   refine bE (fun i e=>∃ t n low ob,e=⟨114,none,48,t,[],⟨n,low,ob⟩,.no⟩/\t.val 1=.ptr 0 0 0/\t.val 3=.int .i64 (w.objs.length:Nat)/\t.val 4=.int .i64 (i:Nat)/\ob.get 0=some (aU 0 [os,ts,us,is,.int .i64 w.used])/\0<n/\i<=w.objs.length/\(w.objs.take i).all (CG w.objs.length)=true) (fun i=>w.objs.length-i) 0
    ⟨_,1,0,_,rfl,by simp +decide only [↓ aB],by simp +decide only [↓ aB],by simp +decide only [↓ aB];rfl,by simp +decide only [↓ aB],by omega,Nat.zero_le _,rfl⟩ ?_
   rintro i _ ⟨t,n,low,ob,rfl,t1,t3,t4,hg0,hn,hi,hall⟩
   have f0:=bA (i:=0) (n:=n) hn
   have d1:((i:Int)<(w.objs.length:Nat))=(i<w.objs.length):=propext (by omega)
   by_cases hlt:i<w.objs.length
   ·have d5:=aJ (i:=i) (by omega)
    have hm:=iQ (d:=default) hlt
    obtain ⟨hix,hcl,hcc,hdec⟩:=hat i hlt
    have x1:=fun {q d}=>hix (q:=q) (d:=d)
    have e1:=nY hdec
    have e2:=EF (n:=w.objs.length) hdec
    have hob:CG w.objs.length (w.objs.getD i default)=(fY (w.objs.getD i default)&&fO w.objs.length (w.objs.getD i default)):=rfl
    have hsn:=fun h=>yH (d:=default) (p:=CG w.objs.length) hlt hall h
    generalize c i=cs at *
    generalize hxd:w.objs.getD i default=x at *
    cases g1:fY x with
    | false=>
      simp +contextual +decide (maxSteps:=1000000) only [↓ wP,wQ,tf,Nat.reduceAdd,ne_eq,t1,t3,t4,hg0,f0,hsl.idx,x1,hcl,d1,hlt,e1,g1]
      rw [kF fun h=>uX hm (by rw [hob,g1];rfl) h.2.2.2.2.2.1]
    | true=>
    cases g2:fO w.objs.length x with
    | false=>
      simp +contextual +decide (maxSteps:=1000000) only [↓ wP,wQ,tf,Nat.reduceAdd,ne_eq,t1,t3,t4,hg0,f0,hsl.idx,x1,hcl,d1,hlt,e1,g1,e2,g2]
      rw [kF fun h=>uX hm (by rw [hob,g1,g2];rfl) h.2.2.2.2.2.1]
    | true=>
      simp +contextual +decide (maxSteps:=1000000) only [↓ wP,wQ,tf,Nat.reduceAdd,ne_eq,t1,t3,t4,hg0,f0,hsl.idx,x1,hcl,d1,hlt,e1,g1,e2,g2,d5]
      exact ⟨i+1,by show _-_<_-_;omega,_,_,_,_,rfl,by simp +decide only [↓ aB,t1],by simp +decide only [↓ aB,t3],by simp +decide only [↓ aB],hg0,hn,hlt,hsn (by rw [hob,g1,g2];rfl)⟩
   have hfull:i=w.objs.length:=by omega
   rw [hfull,List.take_length]at hall
   simp +contextual +decide (maxSteps:=1000000) only [↓ wP,wQ,ne_eq,t3,t4,d1,hlt]
   clear hfull hlt d1 t4 hi
   refine bE (fun i e=>∃ t n low ob,e=⟨114,none,48,t,[],⟨n,low,ob⟩,.no⟩/\t.val 1=.ptr 0 0 0/\t.val 3=.int .i64 (w.objs.length:Nat)/\t.val 5=.int .i64 (i:Nat)/\ob.get 0=some (aU 0 [os,ts,us,is,.int .i64 w.used])/\0<n/\i<=w.tasks.length/\(w.tasks.take i).all (fun t=>jE t 0 ((w.objs.length:Int)-1))=true) (fun i=>w.tasks.length-i) 0
    ⟨_,_,_,_,rfl,by simp +decide only [↓ aB,t1],by simp +decide only [↓ aB,t3],by simp +decide only [↓ aB];rfl,hg0,hn,Nat.zero_le _,rfl⟩ ?_
   clear t1 t3 hg0 f0 hn t n low ob i
   rintro i _ ⟨t,n,low,ob,rfl,t1,t3,t5,hg0,hn,hi,hall2⟩
   have f0:=bA (i:=0) (n:=n) hn
   have d1:((i:Int)<(w.tasks.length:Nat))=(i<w.tasks.length):=propext (by omega)
   have d3:(0:Int)<=i:=by omega
   by_cases hlt:i<w.tasks.length
   ·have d5:=aJ (i:=i) (by omega)
    have hm:=iQ (d:=default) hlt
    have d6:IntKind.i64.wrap (((w.objs.length:Nat):Int)-1)=((w.objs.length:Nat):Int)-1:=IntWalk.i64_in _ (by omega)
    have hsn:=fun h=>yH (d:=default) (p:=fun t=>jE t 0 ((w.objs.length:Int)-1)) hlt hall2 h
    have x1:∀ {q:IntKind} {d:Option AV},fK (some 1) (w.tasks.map lY) (.int q (i:Nat)) d=some (.pf (.int .i64 (w.tasks.getD i default))):=fun {q d}=>fT uB d3 (by omega)
    generalize hxd:w.tasks.getD i default=x at *
    cases g1:jE x 0 ((w.objs.length:Int)-1) with
    | false=>
      simp +contextual +decide (maxSteps:=1000000) only [↓ wP,wQ,tf,Nat.reduceAdd,ne_eq,t1,t3,t5,hg0,f0,s2.len,s2.idx,x1,d1,hlt,d6,bW,g1]
      rw [kF fun h=>uX hm (p:=fun t=>jE t 0 ((w.objs.length:Int)-1)) g1 h.2.2.2.2.2.2.1]
    | true=>
      simp +contextual +decide (maxSteps:=1000000) only [↓ wP,wQ,tf,Nat.reduceAdd,ne_eq,t1,t3,t5,hg0,f0,s2.len,s2.idx,x1,d1,hlt,d6,bW,g1,d5]
      exact ⟨i+1,by show _-_<_-_;omega,_,_,_,_,rfl,by simp +decide only [↓ aB,t1],by simp +decide only [↓ aB,t3],by simp +decide only [↓ aB],hg0,hn,hlt,hsn g1⟩
   have hfull:i=w.tasks.length:=by omega
   rw [hfull,List.take_length]at hall2
   simp +contextual +decide (maxSteps:=1000000) only [↓ wP,wQ,tf,Nat.reduceAdd,ne_eq,t1,t5,hg0,f0,s2.len,d1,hlt]
   clear hfull hlt d1 d3 t5 hi
   refine bE (fun i e=>∃ t n low ob,e=⟨114,none,48,t,[],⟨n,low,ob⟩,.no⟩/\t.val 1=.ptr 0 0 0/\t.val 6=.int .i64 (i:Nat)/\ob.get 0=some (aU 0 [os,ts,us,is,.int .i64 w.used])/\0<n/\i<=w.outs.length/\(w.outs.take i).all kU=true) (fun i=>w.outs.length-i) 0
    ⟨_,_,_,_,rfl,by simp +decide only [↓ aB,t1],by simp +decide only [↓ aB];rfl,hg0,hn,Nat.zero_le _,rfl⟩ ?_
   clear t1 t3 hg0 f0 hn t n low ob i
   rintro i _ ⟨t,n,low,ob,rfl,t1,t6,hg0,hn,hi,hall3⟩
   have f0:=bA (i:=0) (n:=n) hn
   have d1:((i:Int)<(w.outs.length:Nat))=(i<w.outs.length):=propext (by omega)
   have d3:(0:Int)<=i:=by omega
   by_cases hlt:i<w.outs.length
   ·have d5:=aJ (i:=i) (by omega)
    have hm:=iQ (d:=default) hlt
    have hsn:=fun h=>yH (d:=default) (p:=kU) hlt hall3 h
    have x1:∀ {q:IntKind} {d:Option AV},fK (some 2) (w.outs.map eH) (.int q (i:Nat)) d=some (.pf (.agg [.int .i64 (w.outs.getD i default).1,.int .i64 (w.outs.getD i default).2])):=fun {q d}=>fT lJ d3 (by omega)
    generalize hxd:w.outs.getD i default=x at *
    have hob:kU x=(jE x.1 (-1073741824) 1073741824&&jE x.2 (-1073741824) 1073741824):=rfl
    cases g1:jE x.1 (-1073741824) 1073741824 with
    | false=>
      simp +contextual +decide (maxSteps:=1000000) only [↓ wP,wQ,tf,Nat.reduceAdd,ne_eq,t1,t6,hg0,f0,s3.len,s3.idx,x1,d1,hlt,bW,g1]
      rw [kF fun h=>uX hm (p:=kU) (by rw [hob,g1];rfl) h.2.2.2.2.2.2.2.1]
    | true=>
    cases g2:jE x.2 (-1073741824) 1073741824 with
    | false=>
      simp +contextual +decide (maxSteps:=1000000) only [↓ wP,wQ,tf,Nat.reduceAdd,ne_eq,t1,t6,hg0,f0,s3.len,s3.idx,x1,d1,hlt,bW,g1,g2]
      rw [kF fun h=>uX hm (p:=kU) (by rw [hob,g1,g2];rfl) h.2.2.2.2.2.2.2.1]
    | true=>
      simp +contextual +decide (maxSteps:=1000000) only [↓ wP,wQ,tf,Nat.reduceAdd,ne_eq,t1,t6,hg0,f0,s3.len,s3.idx,x1,d1,hlt,bW,g1,g2,d5]
      exact ⟨i+1,by show _-_<_-_;omega,_,_,_,_,rfl,by simp +decide only [↓ aB,t1],by simp +decide only [↓ aB],hg0,hn,hlt,hsn (by rw [hob,g1,g2];rfl)⟩
   have hfull:i=w.outs.length:=by omega
   rw [hfull,List.take_length]at hall3
   simp +contextual +decide (maxSteps:=1000000) only [↓ wP,wQ,tf,Nat.reduceAdd,ne_eq,t1,t6,hg0,f0,s3.len,d1,hlt]
   clear hfull hlt d1 d3 t6 hi
   refine bE (fun i e=>∃ t n low ob,e=⟨114,none,48,t,[],⟨n,low,ob⟩,.no⟩/\t.val 1=.ptr 0 0 0/\t.val 7=.int .i64 (i:Nat)/\ob.get 0=some (aU 0 [os,ts,us,is,.int .i64 w.used])/\0<n/\i<=w.ins.length/\(w.ins.take i).all dF=true) (fun i=>w.ins.length-i) 0
    ⟨_,_,_,_,rfl,by simp +decide only [↓ aB,t1],by simp +decide only [↓ aB];rfl,hg0,hn,Nat.zero_le _,rfl⟩ ?_
   clear t1 hg0 f0 hn t n low ob i
   rintro i _ ⟨t,n,low,ob,rfl,t1,t7,hg0,hn,hi,hall4⟩
   have f0:=bA (i:=0) (n:=n) hn
   have d1:((i:Int)<(w.ins.length:Nat))=(i<w.ins.length):=propext (by omega)
   have d3:(0:Int)<=i:=by omega
   by_cases hlt:i<w.ins.length
   ·have d5:=aJ (i:=i) (by omega)
    have hm:=iQ (d:=default) hlt
    have hsn:=fun h=>yH (d:=default) (p:=dF) hlt hall4 h
    have x1:∀ {q:IntKind} {d:Option AV},fK (some 1) (w.ins.map lY) (.int q (i:Nat)) d=some (.pf (.int .i64 (w.ins.getD i default))):=fun {q d}=>fT uB d3 (by omega)
    generalize hxd:w.ins.getD i default=x at *
    have hob:dF x=jE x (-1073741824) 1073741824:=rfl
    cases g1:jE x (-1073741824) 1073741824 with
    | false=>
      simp +contextual +decide (maxSteps:=1000000) only [↓ wP,wQ,tf,Nat.reduceAdd,ne_eq,t1,t7,hg0,f0,cS,s4.len,s4.idx,x1,d1,hlt,bW,g1]
      rw [kF fun h=>uX hm (p:=dF) (by rw [hob,g1]) h.2.2.2.2.2.2.2.2]
    | true=>
      simp +contextual +decide (maxSteps:=1000000) only [↓ wP,wQ,tf,Nat.reduceAdd,ne_eq,t1,t7,hg0,f0,cS,s4.len,s4.idx,x1,d1,hlt,bW,g1,d5]
      exact ⟨i+1,by show _-_<_-_;omega,_,_,_,_,rfl,by simp +decide only [↓ aB,t1],by simp +decide only [↓ aB],hg0,hn,hlt,hsn (by rw [hob,g1])⟩
   have hfull:i=w.ins.length:=by omega
   rw [hfull,List.take_length]at hall4
   simp +contextual +decide (maxSteps:=1000000) only [↓ wP,wQ,tf,Nat.reduceAdd,ne_eq,t1,t7,hg0,f0,s4.len,d1,hlt]
   rw [yG.2 ⟨by omega,by omega,by omega,by omega,k5,hall,hall2,hall3,hall4⟩]
end
end Go.Proofs.YtajngkkihadgfaaGreat
/-
 The program of images: worlds that can be stored.
-/
namespace Go.Proofs.YtajngkkihadgfaaGreat
open Go.Abs Go Go.Abs.TryzF
noncomputable section
set_option maxRecDepth 10000
theorem aCu {O:bX} (ho:∀ a σ,O 132 a σ=none) (n:Int) (c:Nat) (x:eZ) (s:Sto) (hc:s.get c=some (aU 0 [.int .i64 n])):RetS Tryz.prog O (.func (.func 132) [] [.ptr c 0 0]) [eH x] s (.bool (KI n x)):=by
 refine RetS.run (first:=[]) (args:=[eH x]) (cap:=[.ptr c 0 0]) aL (ho _ _) (by kernel_rfl) Tryz.func132 Tryz.ntmps132 Tryz.results132 rfl rfl ?_
 obtain ⟨n0,low0,o0⟩:=s
 have hcn:c<n0:=Sto.get_lt hc
 rw [Sto.get_mk hcn]at hc
 have f0:=bA hcn
 obtain ⟨k,m⟩:=x
 show Wk _ _ _ _ ⟨13,none,132,Tr.leaf.lay 0 [.agg [.int .i64 k,.int .i64 m],.ptr c 0 0],[],⟨n0,n0,o0⟩,.no⟩ _
 by_cases h5:k=5
 ·by_cases hm:m<n
  ·simp +contextual +decide (maxSteps:=1000000) only [↓ wP,wQ,tf,Nat.reduceAdd,ne_eq,hc,f0,cS,h5,hm,aZ]
   refine ⟨?_,bC (by omega) fun id hid=>by rw [Tr.get_set_ne _ _ (by omega)]⟩
   simp only [KI,decide_eq_false (show ¬ n<=m by omega)];rfl
  ·simp +contextual +decide (maxSteps:=1000000) only [↓ wP,wQ,tf,Nat.reduceAdd,ne_eq,hc,f0,cS,h5,hm,aZ]
   refine ⟨?_,bC (by omega) fun id hid=>by rw [Tr.get_set_ne _ _ (by omega)]⟩
   simp only [KI,decide_eq_true (show n<=m by omega)];rfl
 ·simp +contextual +decide (maxSteps:=1000000) only [↓ wP,wQ,tf,Nat.reduceAdd,ne_eq,cS,h5,aZ]
  refine ⟨?_,bC (by omega) fun id hid=>by rw [Tr.get_set_ne _ _ (by omega)]⟩
  simp only [KI,decide_eq_false h5];rfl
def qQ (n:Int) (l:List eZ):Bool:=decide (l.length<=30)&&mH n l
def BM (n:Int) (f:Fr):Bool:=qQ n f.env&&qQ n f.vals
def EH (n:Int) (o:Ob):Bool:=qQ n o.vals&&(decide (o.frs.length<=40)&&o.frs.all (BM n))
theorem OD {n:Int} {o:Ob} (h:fY o=true):EH n o=fO n o:=by
 obtain ⟨_,_,h3,h4,h5⟩:=tV h
 have e1:qQ n o.vals=mH n o.vals:=by rw [qQ,decide_eq_true (mN h3).1];rfl
 have e2:o.frs.all (BM n)=o.frs.all (NX n):=by
  have:∀ l:List Fr,(∀ f∈l,nF f=true)->l.all (BM n)=l.all (NX n):=by
   intro l
   induction l with
   | nil=>intro _;rfl
   | cons f l ih=>
     intro hl
     obtain ⟨_,_,g1,g2⟩:=yO (hl f (List.mem_cons_self ..))
     rw [List.all_cons,List.all_cons,ih fun g hg=>hl g (List.mem_cons_of_mem _ hg)]
     congr 1
     rw [BM,NX,qQ,qQ,decide_eq_true (mN g1).1,decide_eq_true (mN g2).1];rfl
  exact this _ h5
 rw [EH,fO,e1,e2,decide_eq_true h4,Bool.true_and,Bool.and_comm]
abbrev ONr (O:bX):Prop:=(∀ a σ,O 140 a σ=none)/\(∀ a σ,O 126 a σ=none)/\(∀ a σ,O 127 a σ=none)/\(∀ a σ,O 79 a σ=none)/\(∀ a σ,O 132 a σ=none)
theorem AK {O:bX} (ho:ONr O) (n:Int) (c:Nat) (a:AV) (l:List eZ) (h:bR a=some l) (s:Sto) (hc:s.get c=some (aU 0 [.int .i64 n])):
 RetS Tryz.prog O (.func (.func 79) [] []) [a,.int .i64 30,.func (.func 132) [] [.ptr c 0 0]] s (.bool (qQ n l)):=
 everyVals ho.1 ho.2.1 ho.2.2.1 ho.2.2.2.1 132 [.ptr c 0 0] a l (cY h) (KI n) 30 s fun x _ s' hs=>aCu ho.2.2.2.2 n c x s' (hs.get hc)
theorem YD {O:bX} (ho:ONr O) (ho':∀ a σ,O 133 a σ=none) (n:Int) (c d:Nat) (cs:List AV) (f:Fr) (hf:tZ (.agg cs)=some f) (s:Sto) (hc:s.get c=some (aU 0 [.int .i64 n])) (hd:s.get d=some (aU 0 [.func (.func 132) [] [.ptr c 0 0]])):
 RetS Tryz.prog O (.func (.func 133) [] [.ptr d 0 0]) [.agg cs] s (.bool (BM n f)):=by
 obtain ⟨e,v,he0,he,hv⟩:=mM hf
 cases he0
 have ce:=aX he
 have cv:=aX hv
 refine RetS.run (first:=[]) (args:=[.agg [.int .i64 f.node,e,v]]) (cap:=[.ptr d 0 0]) aL (ho' _ _) (by kernel_rfl) Tryz.func133 Tryz.ntmps133 Tryz.results133 rfl rfl ?_
 have hc0:=hc
 have hd0:=hd
 obtain ⟨n0,low0,o0⟩:=s
 have hcn:c<n0:=Sto.get_lt hc
 have hdn:d<n0:=Sto.get_lt hd
 rw [Sto.get_mk hcn]at hc
 rw [Sto.get_mk hdn]at hd
 have f0:=bA hcn
 have f1:=bA hdn
 show Wk _ _ _ _ ⟨14,none,133,Tr.leaf.lay 0 [.agg [.int .i64 f.node,e,v],.ptr d 0 0],[],⟨n0,n0,o0⟩,.no⟩ _
 simp +contextual +decide (maxSteps:=1000000) only [↓ wP,wQ,tf,Nat.reduceAdd,ne_eq,hd,f1,cS,ce,cv,ho.2.2.2.1,aP]
 refine bQ (ho.2.2.2.1 _ _) ((AK ho n c e f.env he _ (by rw [Sto.get_mk (by omega),Tr.get_set_ne _ _ (by omega)];exact hc)).wcall fun so hso=>?_)
 rw [aI]
 obtain ⟨n1,low1,o1,e1,h1,h2⟩:=dA hso
 rw [e1]
 have g0:o1.get n0=some (aU 0 [.int .i64 f.node,e,v]):=by rw [h2 n0 (by omega),Tr.get_set_same]
 have gc:o1.get c=some (aU 0 [.int .i64 n]):=by rw [h2 c (by omega),Tr.get_set_ne _ _ (by omega)];exact hc
 have gd:o1.get d=some (aU 0 [.func (.func 132) [] [.ptr c 0 0]]):=by rw [h2 d (by omega),Tr.get_set_ne _ _ (by omega)];exact hd
 have f2:=bA (show n0<n1 by omega)
 have f3:=bA (show d<n1 by omega)
 cases k1:qQ n f.env with
 | false=>
   simp +contextual +decide (maxSteps:=1000000) only [↓ wP,wQ,ne_eq,aZ]
   refine ⟨by rw [BM,k1];rfl,bC (by omega) fun id hid=>by rw [h2 id (by omega),Tr.get_set_ne _ _ (by omega)]⟩
 | true=>
   simp +contextual +decide (maxSteps:=1000000) only [↓ wP,wQ,tf,Nat.reduceAdd,ne_eq,g0,gd,f2,f3,ho.2.2.2.1,aP]
   refine bQ (ho.2.2.2.1 _ _) ((AK ho n c v f.vals hv _ (by rw [Sto.get_mk (by omega)];exact gc)).wcall fun so hso=>?_)
   rw [aI]
   obtain ⟨n2,low2,o2,e2,h3,h4⟩:=dA hso
   rw [e2]
   simp +contextual +decide (maxSteps:=1000000) only [↓ wP,wQ,ne_eq,aZ]
   refine ⟨by rw [BM,k1];rfl,bC (by omega) fun id hid=>by rw [h4 id (by omega),h2 id (by omega),Tr.get_set_ne _ _ (by omega)]⟩
def mI:List AV->Option AV
 | [a,.int .i64 n]=>(dQ a).map fun o=>.bool (EH n o)
 | _=>none
theorem wM {a:AV} {o:Ob} {n:Int} (h:dQ a=some o):mI [a,.int .i64 n]=some (.bool (EH n o)):=by simp [mI,h]
theorem referring_ok:Abs.Ok Tryz.prog 101 mI:=by
 intro args v hg
 unfold mI at hg
 split at hg
 rotate_left
 ·cases hg
 rename_i a n
 obtain ⟨o,ho,rfl⟩:=Option.map_eq_some_iff.1 hg
 have hund:=(lK ho).und
 obtain ⟨vs,fs,rfl,hvs,hfs⟩:=fH ho
 have c1:=aX hvs
 have c2:=jO hfs
 refine aR (L:=[]) aH aL (by kernel_rfl) Tryz.func101 Tryz.ntmps101 Tryz.results101 rfl rfl (aC hund (aC aO aE)) cA ?_
 have hON:ONr (orcL []):=⟨fun _ _=>rfl,fun _ _=>rfl,fun _ _=>rfl,fun _ _=>rfl,fun _ _=>rfl⟩
 simp +contextual +decide (maxSteps:=1000000) only [↓ wP,wQ,tf,Nat.reduceAdd,ne_eq,c1,c2,hON.2.2.2.1,aP]
 refine bQ rfl ((AK hON n 1 vs o.vals hvs _ (by simp +contextual +decide (maxSteps:=1000000) only [↓ wP,wQ,ne_eq])).wcall fun so hso=>?_)
 rw [aI]
 obtain ⟨n1,low1,o1,e1,h1,h2⟩:=dA hso
 rw [e1]
 have g0:o1.get 0=some (aU 0 [.int .i64 o.form,.int .i64 o.n,vs,fs]):=by rw [h2 0 (by omega)];simp [Tr.get_set]
 have g1:o1.get 1=some (aU 0 [.int .i64 n]):=by rw [h2 1 (by omega)];simp [Tr.get_set]
 have g2:o1.get 2=some (aU 0 [.func (.func 132) [] [.ptr 1 0 0]]):=by rw [h2 2 (by omega)];simp [Tr.get_set]
 have f0:=bA (show 0<n1 by omega)
 cases k1:qQ n o.vals with
 | false=>
   simp +contextual +decide (maxSteps:=1000000) only [↓ wP,wQ,ne_eq]
   rw [EH,k1];rfl
 | true=>
   obtain ⟨xs,c,q1,q2,q3⟩:=AO hfs
   simp +contextual +decide (maxSteps:=1000000) only [↓ wP,wQ,tf,Nat.reduceAdd,ne_eq,g0,f0,show ∀ a σ,orcL [] 81 a σ=none from fun _ _=>rfl,aP]
   have:=EP (O:=orcL []) (fun _ _=>rfl) (fun _ _=>rfl) (fun _ _=>rfl) (fun _ _=>rfl) 133 [.ptr 2 0 0] fs xs q1 o.frs.length q2 c (fun i hi {q d}=>(q3 i hi).1) (fun i hi=>(q3 i hi).2.1) (fun i hi=>(q3 i hi).2.2.1) (fun i=>BM n (o.frs.getD i default)) 40 ⟨n1,low1,o1⟩ (fun i hi s' hs=>YD hON (fun _ _=>rfl) n 1 2 (c i) _ (q3 i hi).2.2.2 s' (hs.get (by rw [Sto.get_mk (by omega)];exact g1)) (hs.get (by rw [Sto.get_mk (by omega)];exact g2)))
   rw [mK]at this
   refine bQ rfl (this.wcall fun so hso=>?_)
   rw [aI]
   obtain ⟨n2,low2,o2,e2,h3,h4⟩:=dA hso
   rw [e2]
   simp +contextual +decide (maxSteps:=1000000) only [↓ wP,wQ,ne_eq]
   rw [EH,k1];rfl
abbrev LSt:List iW:=[ent 77 RA,ent 78 oP,ent 36 iT,ent 101 mI]
theorem aHh (n:Int) (c:Nat) (cs:List AV) (o:Ob) (hl:cs.length=4) (hcc:cs.all AV.isCell=true) (ho:dQ (.agg cs)=some o) (s:Sto) (hc:s.get c=some (aU 0 [.int .i64 n])):RetS Tryz.prog (orcL LSt) (.func (.func 100) [] [.ptr c 0 0]) [.agg cs] s (.bool (CG n o)):=by
 refine RetS.run (first:=[]) (args:=[.agg cs]) (cap:=[.ptr c 0 0]) aL rfl (by kernel_rfl) Tryz.func100 Tryz.ntmps100 Tryz.results100 rfl rfl ?_
 obtain ⟨n0,low0,o0⟩:=s
 have hcn:c<n0:=Sto.get_lt hc
 rw [Sto.get_mk hcn]at hc
 have f0:=bA hcn
 have e1:=nY ho
 have e2:=wM (n:=n) ho
 have hz:0+4<=cs.length:=by omega
 have hls:aG cs 0 4=cs:=by unfold aG;rw [List.drop_zero,List.take_of_length_le (by omega)]
 show Wk _ _ _ _ ⟨11,none,100,Tr.leaf.lay 0 [.agg cs,.ptr c 0 0],[],⟨n0,n0,o0⟩,.no⟩ _
 cases k1:fY o with
 | false=>
   simp +contextual +decide (maxSteps:=1000000) only [↓ wP,wQ,tf,Nat.reduceAdd,ne_eq,hl,hcc,hls,cS,e1,k1,aZ]
   refine ⟨by rw [CG,k1];rfl,bC (by omega) fun id hid=>by rw [Tr.get_set_ne _ _ (by omega)]⟩
 | true=>
   simp +contextual +decide (maxSteps:=1000000) only [↓ wP,wQ,tf,Nat.reduceAdd,ne_eq,hc,hl,hcc,hls,f0,cS,e1,e2,k1,aZ]
   refine ⟨by rw [CG,k1,OD k1];rfl,bC (by omega) fun id hid=>by rw [Tr.get_set_ne _ _ (by omega)]⟩
theorem aHi (n:Int) (c:Nat) (x:Int) (s:Sto) (hn:0<=n/\n<=9223372036854775807) (hc:s.get c=some (aU 0 [.int .i64 n])):RetS Tryz.prog (orcL LSt) (.func (.func 102) [] [.ptr c 0 0]) [lY x] s (.bool (jE x 0 (n-1))):=by
 refine RetS.run (first:=[]) (args:=[lY x]) (cap:=[.ptr c 0 0]) aL rfl (by kernel_rfl) Tryz.func102 Tryz.ntmps102 Tryz.results102 rfl rfl ?_
 obtain ⟨n0,low0,o0⟩:=s
 have hcn:c<n0:=Sto.get_lt hc
 rw [Sto.get_mk hcn]at hc
 have f0:=bA hcn
 have e1:IntKind.i64.wrap (n-1)=n-1:=IntWalk.i64_in _ (by omega)
 show Wk _ _ _ _ ⟨8,none,102,Tr.leaf.lay 0 [.int .i64 x,.ptr c 0 0],[],⟨n0,n0,o0⟩,.no⟩ _
 simp +contextual +decide (maxSteps:=1000000) only [↓ wP,wQ,tf,ne_eq,hc,f0,cS,e1,bW,aZ]
 exact bC (by omega) fun id hid=>rfl
theorem aHj (x:eZ) (s:Sto):RetS Tryz.prog (orcL LSt) (.func (.func 103) [] []) [eH x] s (.bool (kU x)):=by
 refine RetS.run (first:=[]) (args:=[eH x]) (cap:=[]) aL rfl (by kernel_rfl) Tryz.func103 Tryz.ntmps103 Tryz.results103 rfl rfl ?_
 obtain ⟨n0,low0,o0⟩:=s
 obtain ⟨k,m⟩:=x
 show Wk _ _ _ _ ⟨11,none,103,Tr.leaf.lay 0 [.agg [.int .i64 k,.int .i64 m]],[],⟨n0,n0,o0⟩,.no⟩ _
 cases k1:dF k with
 | false=>
   simp +contextual +decide (maxSteps:=1000000) only [↓ wP,wQ,tf,Nat.reduceAdd,ne_eq,cS,lH,k1,aZ]
   refine ⟨by simp only [kU,k1];rfl,bC (by omega) fun id hid=>by rw [Tr.get_set_ne _ _ (by omega)]⟩
 | true=>
   simp +contextual +decide (maxSteps:=1000000) only [↓ wP,wQ,tf,Nat.reduceAdd,ne_eq,cS,lH,k1,aZ]
   refine ⟨by simp only [kU,k1];rfl,bC (by omega) fun id hid=>by rw [Tr.get_set_ne _ _ (by omega)]⟩
theorem EI {a:AV} {l:List eZ} (h:bR a=some l):∀ i,i<l.length->∀ {q:IntKind} {d:Option AV},fK (some 2) (l.map eH) (.int q (i:Nat)) d=some (.pf (.agg (yM (l.getD i default)))):=fun i hi {q d}=>aLp l hi
theorem mJ {l:List Int}:∀ i,i<l.length->∀ {q:IntKind} {d:Option AV},fK (some 1) (l.map lY) (.int q (i:Nat)) d=some (.pf (lY (l.getD i default))):=fun i hi {q d}=>fT uB (by omega) (by omega)
set_option maxHeartbeats 2000000 in
theorem stored_ok:Abs.Ok Tryz.prog 45 uW:=by
 intro args v hg
 match args,hg with
 | [a],hg=>
   obtain ⟨w,hw,rfl⟩:=Option.map_eq_some_iff.1 hg
   have hund:=(oZ hw).und
   obtain ⟨os,ts,us,is,rfl,h1,h2,h3,h4,c1,c2,c3,c4⟩:=nC hw
   obtain ⟨xs,c,hsl,hlen,hat⟩:=oM h1
   have s2:=fD h2
   have s3:=cY h3
   have s4:=fD h4
   have hll:=hsl.2
   refine aR (L:=LSt) (elist_cons iIn_ok.ent (elist_cons iNumber_ok.ent (elist_cons formed_ok.ent (elist_cons referring_ok.ent aH)))) aL (by kernel_rfl) Tryz.func45 Tryz.ntmps45 Tryz.results45 rfl rfl (aC hund aE) cA ?_
   have hO:∀ a σ,orcL LSt 104 a σ=none:=fun _ _=>rfl
   have hI:∀ a σ,orcL LSt 105 a σ=none:=fun _ _=>rfl
   have hU:∀ a σ,orcL LSt 106 a σ=none:=fun _ _=>rfl
   simp +contextual +decide (maxSteps:=1000000) only [↓ wP,wQ,tf,Nat.reduceAdd,ne_eq,c1,c2,c3,c4,hsl.len,hlen,hO,aP]
   have r1:=fun (s:Sto) (hs:s.get 1=some (aU 0 [.int .i64 (w.objs.length:Nat)]))=>SD (O:=orcL LSt) (fun _ _=>rfl) (fun _ _=>rfl) (fun _ _=>rfl) hO 100 [.ptr 1 0 0] os xs hsl w.objs.length hlen c (fun i hi {q d}=>(hat i hi).1) (fun i hi=>(hat i hi).2.1) (fun i hi=>(hat i hi).2.2.1) (fun i=>CG w.objs.length (w.objs.getD i default)) 120 s
    (fun i hi s' hs'=>aHh w.objs.length 1 (c i) _ (hat i hi).2.1 (hat i hi).2.2.1 (hat i hi).2.2.2 s' (hs'.get hs))
   refine bQ rfl ((r1 _ (by simp +contextual +decide (maxSteps:=1000000) only [↓ wP,wQ])).wcall fun so hso=>?_)
   rw [mK,aI]
   obtain ⟨n1,low1,o1,e1,h5,h6⟩:=dA hso
   rw [e1]
   clear e1 hso
   have g0:o1.get 0=some (aU 0 [os,ts,us,is,.int .i64 w.used]):=by rw [h6 0 (by omega)];simp [Tr.get_set]
   have g1:o1.get 1=some (aU 0 [.int .i64 (w.objs.length:Nat)]):=by rw [h6 1 (by omega)];simp [Tr.get_set]
   have f0:=bA (show 0<n1 by omega)
   cases k1:(decide (w.objs.length<=120)&&w.objs.all (CG w.objs.length)) with
   | false=>
     simp +contextual +decide (maxSteps:=1000000) only [↓ wP,wQ,ne_eq]
     rw [kF fun h=>by rw [decide_eq_true h.1,h.2.2.2.2.2.1]at k1;cases k1]
   | true=>
   simp +contextual +decide (maxSteps:=1000000) only [↓ wP,wQ,tf,Nat.reduceAdd,ne_eq,g0,f0,hI,aP]
   have r2:=fun (s:Sto) (hs:s.get 1=some (aU 0 [.int .i64 (w.objs.length:Nat)]))=>ED (O:=orcL LSt) (fun _ _=>rfl) (fun _ _=>rfl) (fun _ _=>rfl) hI 102 [.ptr 1 0 0] ts _ s2 w.tasks.length (by simp) (fun i=>lY (w.tasks.getD i default)) (fun i hi {q d}=>mJ i hi) (fun i hi=>rfl) (fun i=>jE (w.tasks.getD i default) 0 ((w.objs.length:Int)-1)) 120 s
    (fun i hi s' hs'=>aHi w.objs.length 1 _ s' (by omega) (hs'.get hs))
   refine bQ rfl ((r2 _ (by rw [Sto.get_mk (by omega)];exact g1)).wcall fun so hso=>?_)
   rw [mK w.tasks (fun t=>jE t 0 ((w.objs.length:Int)-1)),aI]
   obtain ⟨n2,low2,o2,e1,h7,h8⟩:=dA hso
   rw [e1]
   clear e1 hso
   have g0':o2.get 0=some (aU 0 [os,ts,us,is,.int .i64 w.used]):=by rw [h8 0 (by omega)];exact g0
   have f0':=bA (show 0<n2 by omega)
   cases k2:(decide (w.tasks.length<=120)&&w.tasks.all (fun t=>jE t 0 ((w.objs.length:Int)-1))) with
   | false=>
     simp +contextual +decide (maxSteps:=1000000) only [↓ wP,wQ,ne_eq]
     rw [kF fun h=>by rw [decide_eq_true h.2.1,h.2.2.2.2.2.2.1]at k2;cases k2]
   | true=>
   simp +contextual +decide (maxSteps:=1000000) only [↓ wP,wQ,tf,Nat.reduceAdd,ne_eq,g0',f0',hU,aP]
   have r3:=fun (s:Sto)=>SF (O:=orcL LSt) (fun _ _=>rfl) (fun _ _=>rfl) (fun _ _=>rfl) hU 103 [] us _ s3 w.outs.length (by simp) (fun i=>yM (w.outs.getD i default)) (fun i hi {q d}=>EI h3 i hi) (fun _ _=>rfl) (fun _ _=>rfl) (fun i=>kU (w.outs.getD i default)) 100 s
    (fun i hi s' hs'=>aHj _ s')
   refine bQ rfl ((r3 _).wcall fun so hso=>?_)
   rw [mK w.outs kU,aI]
   obtain ⟨n3,low3,o3,e1,h9,h10⟩:=dA hso
   rw [e1]
   clear e1 hso
   have g0'':o3.get 0=some (aU 0 [os,ts,us,is,.int .i64 w.used]):=by rw [h10 0 (by omega)];exact g0'
   have f0'':=bA (show 0<n3 by omega)
   cases k3:(decide (w.outs.length<=100)&&w.outs.all kU) with
   | false=>
     simp +contextual +decide (maxSteps:=1000000) only [↓ wP,wQ,ne_eq]
     rw [kF fun h=>by rw [decide_eq_true h.2.2.1,h.2.2.2.2.2.2.2.1]at k3;cases k3]
   | true=>
   simp +contextual +decide (maxSteps:=1000000) only [↓ wP,wQ,tf,Nat.reduceAdd,ne_eq,g0'',f0'',hI,aP]
   have r4:=fun (s:Sto)=>ED (O:=orcL LSt) (fun _ _=>rfl) (fun _ _=>rfl) (fun _ _=>rfl) hI 78 [] is _ s4 w.ins.length (by simp) (fun i=>lY (w.ins.getD i default)) (fun i hi {q d}=>mJ i hi) (fun i hi=>rfl) (fun i=>dF (w.ins.getD i default)) 50 s
    (fun i hi s' hs'=>.orc rfl)
   refine bQ rfl ((r4 _).wcall fun so hso=>?_)
   rw [mK w.ins dF,aI]
   obtain ⟨n4,low4,o4,e1,h11,h12⟩:=dA hso
   rw [e1]
   clear e1 hso
   have g0''':o4.get 0=some (aU 0 [os,ts,us,is,.int .i64 w.used]):=by rw [h12 0 (by omega)];exact g0''
   have f0''':=bA (show 0<n4 by omega)
   cases k4:(decide (w.ins.length<=50)&&w.ins.all dF) with
   | false=>
     simp +contextual +decide (maxSteps:=1000000) only [↓ wP,wQ,ne_eq]
     rw [kF fun h=>by rw [decide_eq_true h.2.2.2.1,h.2.2.2.2.2.2.2.2]at k4;cases k4]
   | true=>
   simp only [Bool.and_eq_true,decide_eq_true_eq]at k1 k2 k3 k4
   cases k5:jE w.used 0 1073741824 with
   | false=>
     simp +contextual +decide (maxSteps:=1000000) only [↓ wP,wQ,tf,Nat.reduceAdd,ne_eq,g0''',f0''',bW,k5]
     rw [kF fun h=>by rw [h.2.2.2.2.1]at k5;cases k5]
   | true=>
     simp +contextual +decide (maxSteps:=1000000) only [↓ wP,wQ,tf,Nat.reduceAdd,ne_eq,g0''',f0''',bW,k5]
     rw [yG.2 ⟨k1.1,k2.1,k3.1,k4.1,k5,k1.2,k2.2,k3.2,k4.2⟩]
end
end Go.Proofs.YtajngkkihadgfaaGreat
/-
 The layer of images: pages and their checks.
-/
namespace Go.Proofs.YtajngkkihadgfaaGreat
open Go.Abs Go Go.Abs.TryzF
noncomputable section
set_option maxRecDepth 10000
theorem aLh {a:Nat} (h:a<65536):IntKind.u8.wrap (Int.fdiv (a:Int) (2 ^ min 8 IntKind.i64.bits))=((a/256:Nat):Int):=by
 have:(2:Int) ^ min 8 IntKind.i64.bits=256:=by decide
 rw [this,Int.fdiv_eq_ediv_of_nonneg _ (by omega),show ((a:Int)/256)=((a/256:Nat):Int) by omega,nP];omega
def gF (n:Nat):AV:=.int .i64 (n:Nat)
def aD (s:List Nat):Nat:=if s.length%32≠0∨256<s.length/32 then 0 else s.length/32
theorem sF (s:List Nat) (hs:s.length<9223372036854775808):Abs.Returns Tryz.prog 51 [.str s] (.int .i64 (aD s:Nat)):=by
 refine aR (L:=[]) aH aL (by kernel_rfl) Tryz.func51 Tryz.ntmps51 Tryz.results51 rfl rfl (aC cC aE) aO ?_
 have e1:IntKind.i64.wrap (Int.tdiv (s.length:Nat) 32)=((s.length/32:Nat):Int):=by
  rw [Int.tdiv_eq_ediv_of_nonneg (by omega),IntWalk.i64_in _ (by omega)];omega
 have e2:Int.tmod ((s.length:Nat):Int) 32=((s.length%32:Nat):Int):=by
  rw [Int.tmod_eq_emod_of_nonneg (by omega)];omega
 simp +contextual +decide only [↓ tH,↓ aB,mC,dJ,cL,wop,tf,e1,e2]
 unfold aD
 by_cases h1:s.length%32=0
 ·by_cases h2:256<s.length/32
  ·simp [h1,h2];omega
  ·simp [h1,h2];omega
 ·simp [h1];omega
def step (x:Nat × Nat) (c:Nat):Nat × Nat:=((x.1+c)%257,(x.2+(x.1+c)%257)%257)
def YE (n:Nat) (l:List Nat):Nat × Nat:=l.foldl step (n+1,0)
def cW (n:Nat) (p:List Nat):List Nat:=[(YE n (p.take 28)).1/256,(YE n (p.take 28)).1%256,(YE n (p.take 28)).2/256,(YE n (p.take 28)).2%256]
theorem uY (x:Nat × Nat) (c:Nat):(step x c).1<257/\(step x c).2<257:=⟨Nat.mod_lt _ (by omega),Nat.mod_lt _ (by omega)⟩
theorem OE (p:List Nat) (n:Nat) (hp:p.length=32) (hb:∀ b∈p,b<256) (hn:n<4611686018427387904):Abs.Returns Tryz.prog 111 [.agg (p.map encB),.int .i64 (n:Nat)] (.agg ((cW n p).map encB)):=by
 refine aR (L:=[]) aH aL (by kernel_rfl) Tryz.func111 Tryz.ntmps111 Tryz.results111 rfl rfl (aC (vJ (by simp only [List.mem_map];rintro x ⟨b,_,rfl⟩;exact FP b)) (aC aO aE)) (vJ (by simp only [List.mem_map];rintro x ⟨b,_,rfl⟩;exact FP b)) ?_
 simp +contextual +decide only [↓ tH,↓ aB,mC,dJ,cL,kY,wop,SZ,tf,aJ (show n<9223372036854775807 by omega),Int.reduceToNat,Nat.reduceAdd]
 have hlen:(p.take 28).length=28:=by simp [hp]
 let S:Nat->Nat × Nat:=fun i=>(p.take i).foldl step (n+1,0)
 have hS1:∀ i,(S i).1<4611686018427387905:=by
  intro i
  cases i with
  | zero=>simp only [S,List.take_zero,List.foldl_nil];omega
  | succ i=>
    by_cases hi:i<p.length
    ·simp only [S,List.take_succ_eq_append_getElem hi,List.foldl_append,List.foldl_cons,List.foldl_nil]
     have:=(uY ((p.take i).foldl step (n+1,0)) p[i]).1;omega
    ·have e1:p.take (i+1)=p.take 31++[p.getD 31 0]:=by
      rw [List.take_of_length_le (by omega),bZ (show 31<p.length by omega)]
      have:=List.take_succ_eq_append_getElem (show 31<p.length by omega)
      rw [<-this,List.take_of_length_le (by omega)]
     simp only [S,e1,List.foldl_append,List.foldl_cons,List.foldl_nil]
     have:=(uY ((p.take 31).foldl step (n+1,0)) (p.getD 31 0)).1;omega
 have hS2:∀ i,i<=28->(S i).2<257:=by
  intro i hi
  cases i with
  | zero=>simp only [S,List.take_zero,List.foldl_nil];omega
  | succ i=>
    have hi':i<p.length:=by omega
    simp only [S,List.take_succ_eq_append_getElem hi',List.foldl_append,List.foldl_cons,List.foldl_nil]
    exact (uY ((p.take i).foldl step (n+1,0)) p[i]).2
 have hSs:∀ i,i<28->S (i+1)=step (S i) (p.getD i 0):=by
  intro i hi
  have hi':i<p.length:=by omega
  simp only [S,List.take_succ_eq_append_getElem hi',List.foldl_append,List.foldl_cons,List.foldl_nil,bZ hi']
 refine bE (fun i e=>∃ t,e=⟨38,none,111,t,[],⟨2,0,(Tr.leaf.set 0 (aU 0 (List.map encB p))).set 1 (aU 0 [AV.int IntKind.u8 0,AV.int IntKind.u8 0,AV.int IntKind.u8 0,AV.int IntKind.u8 0])⟩,.no⟩/\t.val 4=.ptr 1 0 0/\t.val 5=.int .i64 ((S i).1:Nat)/\t.val 6=.int .i64 ((S i).2:Nat)/\t.val 11=.sl 0 0 0 28 (.is 32)/\t.val 12=.int .i64 (28:Nat)/\t.val 13=.int .i64 (i:Nat)/\i<=28) (fun i=>28-i) 0
  ⟨_,rfl,by simp +decide only [↓ aB],by simp +decide only [↓ aB];rfl,by simp +decide only [↓ aB];rfl,by simp +decide only [↓ aB],by simp +decide only [↓ aB],by simp +decide only [↓ aB];rfl,by omega⟩ ?_
 rintro i _ ⟨t,rfl,h4,h5,h6,h11,h12,h13,hi⟩
 by_cases hlt:i<28
 ·have d1:(i:Int)<(28:Nat):=by omega
  have d3:(0:Int)<=i:=by omega
  have d4:((i:Int)).toNat=i:=by omega
  have d5:=aJ (i:=i) (by omega)
  have d6:(p.map encB)[i]?=some (encB (p.getD i 0)):=by
   have hi':i<p.length:=by omega
   simp [hi']
  have hc:p.getD i 0<256:=by rw [bZ (show i<p.length by omega)];exact hb _ (List.getElem_mem _)
  have q1:=hS1 i
  have q2:=hS2 i (by omega)
  have e1:IntKind.i64.wrap ((p.getD i 0:Nat):Int)=((p.getD i 0:Nat):Int):=cM (by omega)
  have e2:IntKind.i64.wrap (((S i).1:Nat)+((p.getD i 0:Nat):Int))=(((S i).1+p.getD i 0:Nat):Int):=by rw [<-Int.natCast_add];exact cM (by omega)
  have e3:Int.tmod (((S i).1+p.getD i 0:Nat):Int) 257=(((S i).1+p.getD i 0)%257:Nat):=gL
  have e4:IntKind.i64.wrap (((S i).2:Nat)+((((S i).1+p.getD i 0)%257:Nat):Int))=(((S i).2+((S i).1+p.getD i 0)%257:Nat):Int):=by rw [<-Int.natCast_add];exact cM (by omega)
  have e5:Int.tmod (((S i).2+((S i).1+p.getD i 0)%257:Nat):Int) 257=(((S i).2+((S i).1+p.getD i 0)%257)%257:Nat):=gL
  simp +contextual +decide only [↓ tH,↓ aB,mC,dJ,cL,kY,wop,tf,h5,h6,h11,h12,h13,d1,d3,d4,d5,d6,Nat.zero_add,Nat.mul_one,encB,e1,e2,e3,e4,e5]
  exact ⟨i+1,by show _-_<_-_;omega,_,rfl,by simp +decide only [↓ aB,h4],by simp +decide only [↓ aB,hSs i hlt,step],by simp +decide only [↓ aB,hSs i hlt,step],
   by simp +decide only [↓ aB,h11],by simp +decide only [↓ aB,h12],by simp +decide only [↓ aB],hlt⟩
 ·have:i=28:=by omega
  subst this
  simp +contextual +decide only [↓ tH,↓ aB,mC,dJ,cL,kY,wop,TI,JG,tf,h4,h5,h6,h12,h13,Int.reduceToNat,Nat.reduceAdd,Nat.zero_add,Nat.mul_one,GE,aF,Option.bind_some]
  have k1:(S 28).1<257:=by rw [hSs 27 (by omega)];exact (uY _ _).1
  have k2:=hS2 28 (by omega)
  show AV.agg _=AV.agg (List.map encB [(S 28).1/256,(S 28).1%256,(S 28).2/256,(S 28).2%256])
  simp only [List.map_cons,List.map_nil,encB,aLh (show (S 28).1<65536 by omega),aLh (show (S 28).2<65536 by omega),nP]
def right (n:Nat) (p:List Nat):Bool:=decide (cW n p=p.drop 28)
theorem aOe:aMa Tryz.prog 159=some (4,.u8):=by kernel_rfl
theorem YF {p:List Nat} (hp:p.length=32):aG p 28 4=p.drop 28:=by
 unfold aG;rw [List.take_of_length_le];simp [hp]
theorem pY {p:List Nat} {n:Nat} (hp:p.length=n):aG p 0 n=p:=by
 unfold aG;rw [List.drop_zero,List.take_of_length_le (by omega)]
theorem OF (l:List Nat):l.map encB=(l.map Int.ofNat).map (.int .u8):=by rw [List.map_map];rfl
theorem YG {l m:List Nat}:(l.map Int.ofNat=m.map Int.ofNat)=(l=m):=propext (List.map_inj_right fun _ _=>Int.ofNat.inj)
theorem aCw {p q:List Nat} (hp:p.length=4) (hq:q.length=4) {x y:Operand}:abin Tryz.prog .eql 159 x y (.agg (p.map encB)) (.agg (q.map encB))=some (.bool (decide (p=q))):=by
 rw [OF,OF,aDu aOe (by simpa using hp) (by simpa using hq)]
 simp only [YG]
theorem OG (p:List Nat) (n:Nat) (hp:p.length=32) (hb:∀ b∈p,b<256) (hn:n<4611686018427387904):Abs.Returns Tryz.prog 53 [.agg (p.map encB),.int .i64 (n:Nat)] (.bool (right n p)):=by
 refine aR (L:=[xL 111 [.agg (p.map encB),.int .i64 (n:Nat)] (.agg ((cW n p).map encB))]) (elist_cons (lL (OE p n hp hb hn)) aH) (fun _=>([2],[])) (by kernel_rfl) Tryz.func53 Tryz.ntmps53 Tryz.results53 rfl rfl (aC (vJ (by simp only [List.mem_map];rintro x ⟨b,_,rfl⟩;exact FP b)) (aC aO aE)) cA ?_
 simp +contextual +decide only [↓ tH,↓ aB,mC,dJ,cL,kY,wop,SZ,wdr,TI,tf,hp,Int.reduceToNat,Nat.reduceAdd,Nat.reduceSub,Nat.zero_add,Nat.mul_one,iV,YF,pY,aCw (show (cW n p).length=4 from rfl) (show (p.drop 28).length=4 by simp [hp])]
 rfl
def sG (s:List Nat):AV:=.func (.func 115) [] [.pf (.str s)]
theorem yI (s:List Nat):Abs.Returns Tryz.prog 52 [.str s] (sG s):=by
 refine uD (L:=[]) aH aL (by kernel_rfl) Tryz.func52 Tryz.ntmps52 Tryz.results52 rfl rfl (aC cC aE) ?_
 simp +contextual +decide only [↓ tH,↓ aB,mC,dJ,cL,kY,Nat.reduceAdd]
 exact .func _ _ _ _ _ rfl rfl fR (bI (aIk (g:=0) (cs:=[.str s]) (Nat.le_refl _) rfl (Nat.le_refl _) (fun j x y hx hy=>by
  cases j with
  | zero=>simp [AV.cells]at hx hy;subst hx;subst hy;exact .und _ cC
  | succ j=>simp [AV.cells]at hy)) fR)
def aQ (s:List Nat) (i:Nat):List Nat:=aG s (i*32) 32
def rC (s:List Nat):List (List AV):=(List.range (aD s)).map fun i=>[.int .i64 (i:Nat),.agg ((aQ s i).map encB)]
theorem pA {s:List Nat} {i:Nat} (h:i<aD s):i*32+32<=s.length/\i<256:=by
 unfold aD at h
 split at h<;>omega
theorem fE {s:List Nat} {i:Nat} (h:i<aD s):(aQ s i).length=32:=by
 have:=(pA h).1
 simp [aQ,aG];omega
theorem oN {s:List Nat} (hb:∀ b∈s,b<256) (i:Nat):∀ b∈aQ s i,b<256:=fun b h=>hb b (List.mem_of_mem_drop (List.mem_of_mem_take h))
theorem xF (s:List Nat) (hs:s.length<9223372036854775808) {O:bX} (h32:∀ σ,O 51 [.str s] σ=some (.ret (.int .i64 (aD s:Nat)) none)) (h62:∀ a σ,O 115 a σ=none):aOr Tryz.prog O (sG s) (rC s):=by
 intro l J D X σ hl hJs hDs hXs hJ0 hr
 have hrow:(rC s).length=aD s:=by simp [rC]
 refine kX (h62 _ _) (by kernel_rfl) Tryz.func115 rfl (Wk.sound (H:=aL) ?_)
 rw [hrow]
 show Wk _ _ _ _ ⟨24,none,115,Tr.leaf.lay 0 [.func (.yield l) [] [],.pf (.str s)],[],⟨σ.n,σ.n,σ.o⟩,.no⟩ _
 simp +contextual +decide only [↓ tH,↓ aB,mC,dJ,cL,kY,wop,tf,h32]
 refine bE (fun i e=>∃ t u,e=⟨24,none,115,t,[],u,.no⟩/\t.val 0=.func (.yield l) [] []/\t.val 1=.pf (.str s)/\t.val 5=.int .i64 (aD s:Nat)/\t.val 6=.int .i64 (i:Nat)/\i<=aD s/\l<u.n/\J i u/\(i=0∨u.low<=l)) (fun i=>aD s-i) 0
  ⟨_,_,rfl,by simp +decide only [↓ aB,dJ,cL],by simp +decide only [↓ aB,dJ,cL],by simp +decide only [↓ aB],by simp +decide only [↓ aB];rfl,Nat.zero_le _,hl,hJs _ _ _ (Sim.low σ σ.n) hJ0,.inl rfl⟩ ?_
 rintro i _ ⟨t,⟨n,low,o⟩,rfl,h0,h1,h5,h6,hi,hln,hJ,hlow⟩
 by_cases hlt:i<aD s
 ·have hle:=pA hlt
  have d1:(i:Int)<(aD s:Nat):=by omega
  have e1:IntKind.i64.wrap ((i:Int)*32)=((i*32:Nat):Int):=by rw [IntWalk.i64_in _ (by omega)];simp
  have e2:IntKind.i64.wrap (((i+1:Nat):Int)*32)=(((i+1)*32:Nat):Int):=by rw [IntWalk.i64_in _ (by omega)];simp
  have d5:=aJ (i:=i) (by omega)
  have f1:(0:Int)<=((i*32:Nat):Int):=by omega
  have f2:((i*32:Nat):Int)<=(((i+1)*32:Nat):Int):=by omega
  have f3:(((i+1)*32:Nat):Int)<=(s.length:Nat):=by omega
  have f4:aG s (((i*32:Nat):Int)).toNat ((((i+1)*32:Nat):Int).toNat-(((i*32:Nat):Int)).toNat)=aQ s i:=by
   rw [Int.toNat_natCast,Int.toNat_natCast,aQ];congr 1;omega
  have hp:=fE hlt
  have dn:n<n+1:=Nat.lt_succ_self n
  simp +contextual +decide only [↓ tH,↓ aB,mC,dJ,cL,kY,wop,SZ,TI,tf,Nat.zero_add,h0,h1,h5,h6,d1,e1,e2,d5,f1,f2,f3,f4,hp,dn,pY]
  have hcall:=hr i [.int .i64 (i:Nat),.agg ((aQ s i).map encB)] (by simp [rC,hlt]) ((Sto.mk n low o).push (aU 0 ((aQ s i).map encB))) (Nat.lt_succ_of_lt hln) (hJs _ _ _ (Sim.push _ _) hJ)
  refine hcall.mono fun res hk=>?_
  have hk':rK l J D X i ⟨n+1,low,o.set n (aU 0 ((aQ s i).map encB))⟩ res:=hk
  clear hk hcall
  cases res with
  | pan v so=>
    rw [TA]
    have k:(so.getD ⟨n+1,low,o.set n (aU 0 ((aQ s i).map encB))⟩).low<=l/\X v (so.getD ⟨n+1,low,o.set n (aU 0 ((aQ s i).map encB))⟩):=hk'
    generalize so.getD ⟨n+1,low,o.set n (aU 0 ((aQ s i).map encB))⟩=u at *
    simp +contextual +decide only [↓ tH,mC,JG]
    exact LG rfl (yW _ _ _ (X v) (hXs v) k.2 (.inl (Nat.lt_of_le_of_lt k.1 hl)))
  | ret v so=>
    rw [aI]
    have k:(v=.bool true/\(so.getD ⟨n+1,low,o.set n (aU 0 ((aQ s i).map encB))⟩).low<=l/\l<(so.getD ⟨n+1,low,o.set n (aU 0 ((aQ s i).map encB))⟩).n/\J (i+1) (so.getD ⟨n+1,low,o.set n (aU 0 ((aQ s i).map encB))⟩))∨(v=.bool false/\(so.getD ⟨n+1,low,o.set n (aU 0 ((aQ s i).map encB))⟩).low<=l/\D (so.getD ⟨n+1,low,o.set n (aU 0 ((aQ s i).map encB))⟩)):=by
     cases v with
     | bool b=>cases b with
       | true=>exact .inl ⟨rfl,hk'⟩
       | false=>exact .inr ⟨rfl,hk'⟩
     | _=>exact hk'.elim
    generalize so.getD ⟨n+1,low,o.set n (aU 0 ((aQ s i).map encB))⟩=u at *
    rcases k with ⟨rfl,k1,k0,k2⟩ | ⟨rfl,k1,k2⟩
    ·simp +contextual +decide only [↓ tH,↓ aB,mC,dJ,cL,h6,d5]
     exact ⟨i+1,by show _-_<_-_;omega,_,_,rfl,by simp +decide only [↓ aB,h0],by simp +decide only [↓ aB,h1],by simp +decide only [↓ aB,h5],by simp +decide only [↓ aB],hlt,k0,k2,.inr k1⟩
    ·simp +contextual +decide only [↓ tH,↓ aB,mC,dJ,cL,JG]
     exact kO rfl (vs:=[]) rfl (.inr (yW _ _ _ D hDs k2 (.inl (Nat.lt_of_le_of_lt k1 hl))))
 ·have d1:¬ (i:Int)<(aD s:Nat):=by omega
  simp +contextual +decide only [↓ tH,↓ aB,mC,dJ,cL,JG,h5,h6,d1]
  have hic:i=aD s:=by omega
  refine kO rfl (vs:=[]) rfl (.inl (yW _ _ _ (J (aD s)) (hJs _) (hic ▸ hJ) ?_))
  rcases hlow with h | h
  ·refine .inr ?_
   rw [<-hic,h];exact hJ0
  ·exact .inl (Nat.lt_of_le_of_lt h hl)
end
end Go.Proofs.YtajngkkihadgfaaGreat
