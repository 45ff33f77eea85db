/-
  The program of images: what can be stored.
-/
import Derived.Test.YtajngkkihadgfaaHg
import Derived.Test.YtajngkkihadgfaaEp
set_option linter.unusedVariables false
set_option linter.unusedSimpArgs false
namespace Go.Proofs.Ytajngkkihadgfaa
open Go.Abs Go Go.Abs.TryF
noncomputable section
set_option maxRecDepth 10000
theorem iIn_ok:Abs.Ok Try.prog 67 inV:=by
 intro args v hg
 unfold inV at hg
 split at hg<;>cases hg
 rename_i n l h
 refine bQ (L:=[]) bC aR (by kernel_rfl) Try.func67 Try.ntmps67 Try.results67 rfl rfl (aF aV (aF aV (aF aV aO))) gQ ?_
 by_cases h1:l<=n
 ·simp +contextual +decide (maxSteps:=1000000) only [↓ wP,wQ,tf,Nat.reduceAdd,ne_eq,h1]
  simp [iU,h1]
 ·simp +contextual +decide (maxSteps:=1000000) only [↓ wP,wQ,tf,Nat.reduceAdd,ne_eq,h1]
  simp [iU,h1]
def nE:List AV->Option AV
 | [.int .i64 n]=>some (.bool (cS n))
 | _=>none
theorem iNumber_ok:Abs.Ok Try.prog 69 nE:=by
 intro args v hg
 unfold nE at hg
 split at hg<;>cases hg
 rename_i n
 refine bQ (L:=[ent 67 inV]) (elist_cons iIn_ok.ent bC) aR (by kernel_rfl) Try.func69 Try.ntmps69 Try.results69 rfl rfl (aF aV aO) gQ ?_
 simp +contextual +decide (maxSteps:=1000000) only [↓ wP,wQ,tf,Nat.reduceAdd,ne_eq,jM]
 rfl
theorem eE {n:Int}:nE [.int .i64 n]=some (.bool (cS n)):=rfl
set_option maxHeartbeats 1000000 in
theorem iValued_ok:Abs.Ok Try.prog 83 QN:=by
 intro args v hg
 match args,hg with
 | [a],hg=>
   obtain ⟨⟨k,n⟩,hl,rfl⟩:=Option.map_eq_some_iff.1 hg
   cases zW hl
   refine bQ (L:=[ent 67 inV,ent 69 nE]) (elist_cons iIn_ok.ent (elist_cons iNumber_ok.ent bC)) aR (by kernel_rfl) Try.func83 Try.ntmps83 Try.results83 rfl rfl (aF wZ aO) gQ ?_
   by_cases h1:k=1
   ·subst h1;simp +contextual +decide (maxSteps:=1000000) only [↓ wP,wQ,tf,Nat.reduceAdd,ne_eq,fJ,jM,eE]
    rfl
   by_cases h2:k=2
   ·subst h2;simp +contextual +decide (maxSteps:=1000000) only [↓ wP,wQ,tf,Nat.reduceAdd,ne_eq,fJ,jM,eE]
    rfl
   by_cases h3:k=3
   ·subst h3;simp +contextual +decide (maxSteps:=1000000) only [↓ wP,wQ,tf,Nat.reduceAdd,ne_eq,fJ,jM,eE]
    rfl
   by_cases h4:k=4
   ·subst h4;simp +contextual +decide (maxSteps:=1000000) only [↓ wP,wQ,tf,Nat.reduceAdd,ne_eq,fJ,jM,eE]
    rfl
   by_cases h5:k=5
   ·subst h5;simp +contextual +decide (maxSteps:=1000000) only [↓ wP,wQ,tf,Nat.reduceAdd,ne_eq,fJ,jM,eE]
    rfl
   simp +contextual +decide (maxSteps:=1000000) only [↓ wP,wQ,tf,Nat.reduceAdd,ne_eq,fJ,jM,h1,h2,h3,h4,h5]
   simp [dF,h1,h2,h3,h4,h5]
theorem bB {n low n' low':Nat} {o o':Tr AObj} (h:n<=n') (h':∀ id,id<n->o'.get id=o.get id):Sim ⟨n,low,o⟩ ⟨n',low',o'⟩:=⟨h,fun id hid=>by
 have hid':id<n:=hid
 rw [Sto.get_mk hid',Sto.get_mk (by omega)];exact h' id hid'⟩
theorem cH {n low:Nat} {o:Tr AObj} {S:Sto} (h:Sim ⟨n,low,o⟩ S):∃ n' low' o',S=⟨n',low',o'⟩/\n<=n'/\∀ id,id<n->o'.get id=o.get id:=by
 obtain ⟨n',low',o'⟩:=S
 refine ⟨n',low',o',rfl,h.1,fun id hid=>?_⟩
 have:=h.2 id hid
 have hn:n<=n':=h.1
 rwa [Sto.get_mk hid,Sto.get_mk (by omega)]at this
theorem QH {O:bP} (ho:∀ a σ,O 114 a σ=none) (g:FuncId) (cap:List AV) (a:AV) (xs:List AV) (ha:Sl a xs) (m:Nat) (hlen:xs.length=m) (c:Nat->List AV) (hix:∀ i,i<m->∀ {q:IntKind} {d:Option AV},eU (some 2) xs (.int q (i:Nat)) d=some (.pf (.agg (c i)))) (hcl:∀ i,i<m->(c i).length=2) (p:Nat->Bool) (s:Sto)
 (h:∀ i,i<m->∀ s',Sim s s'->RetS Try.prog O (.func (.func g) [] cap) [.agg (c i)] s' (.bool (p i))):RetS Try.prog O (.func (.func 114) [] []) [a,.func (.func g) [] cap] s (.int .i64 (match (List.range m).findIdx? p with | some i=>((i:Nat):Int) | none=>-1)):=by
 have hll:=ha.2
 refine RetS.run (first:=[]) (args:=[a,.func (.func g) [] cap]) (cap:=[]) aR (ho _ _) (by kernel_rfl) Try.func114 Try.ntmps114 Try.results114 rfl rfl ?_
 obtain ⟨n0,low0,o0⟩:=s
 show Wk _ _ _ _ ⟨19,none,114,Tr.leaf.lay 0 [a,.func (.func g) [] cap],[],⟨n0,n0,o0⟩,.no⟩ _
 simp +contextual +decide (maxSteps:=1000000) only [↓ wP,wQ,tf,Nat.reduceAdd,ne_eq,ha.len,hlen]
 refine cB (fun i e=>∃ t n low o,e=⟨19,none,114,t,[],⟨n,low,o⟩,.no⟩/\t.val 0=a/\t.val 1=.func (.func g) [] cap/\t.val 7=.int .i64 (m:Nat)/\t.val 8=.int .i64 (i:Nat)/\i<=m/\(∀ j,j<i->p j=false)/\n0<=n/\∀ id,id<n0->o.get id=o0.get id) (fun i=>m-i) 0
  ⟨_,n0,n0,o0,rfl,by simp +decide only [↓ aB,aD,aC],by simp +decide only [↓ aB,aD,aC],by simp +decide only [↓ aB,aD,aC],by simp +decide only [↓ aB,aD,aC];rfl,Nat.zero_le _,fun j hj=>by omega,Nat.le_refl _,fun _ _=>rfl⟩ ?_
 rintro i _ ⟨t,n,low,o,rfl,t0,t1,t7,t8,hi,hpre,hn,hoth⟩
 by_cases hlt:i<m
 ·have d1:((i:Int)<(m:Nat))=True:=eq_true (by omega)
  have d5:=bH (i:=i) (by omega)
  have x1:=fun {q d}=>hix i hlt (q:=q) (d:=d)
  have x2:=hcl i hlt
  have x3:=h i hlt
  generalize c i=cs at *
  simp +contextual +decide (maxSteps:=1000000) only [↓ wP,wQ,tf,Nat.reduceAdd,ne_eq,ha.idx,t0,t1,t7,t8,d1,x1,cM,x2]
  refine cG.1 ((x3 ⟨n,low,o⟩ (bB (low:=low0) hn hoth)).wcall fun so hso=>?_)
  rw [aH]
  obtain ⟨n',low',o',e1,h1,h2⟩:=cH hso
  rw [e1]
  cases hp:p i with
  | true=>
    have hf:(List.range m).findIdx? p=some i:=by
     rw [List.findIdx?_eq_some_iff_getElem]
     refine ⟨by simpa using hlt,by simpa using hp,fun j hj=>?_⟩
     have:=hpre j hj
     simpa using this
    simp +contextual +decide (maxSteps:=1000000) only [↓ wP,wQ,tf,Nat.reduceAdd,ne_eq,t0,t1,t7,t8,aX,aI,hf]
    exact bB (by omega) (fun id hid=>by rw [h2 id (by omega)];exact hoth id hid)
  | false=>
    simp +contextual +decide (maxSteps:=1000000) only [↓ wP,wQ,tf,Nat.reduceAdd,ne_eq,t0,t1,t7,t8,d5]
    exact ⟨i+1,by show _-_<_-_;omega,_,n',low',o',rfl,by simp +decide only [↓ aB,aD,aC,t0],by simp +decide only [↓ aB,aD,aC,t1],by simp +decide only [↓ aB,aD,aC,t7],by simp +decide only [↓ aB,aD,aC],hlt,fun j hj=>by
     rcases Nat.lt_succ_iff_lt_or_eq.1 hj with hj | rfl
     ·exact hpre j hj
     ·exact hp,by omega,fun id hid=>by rw [h2 id (by omega)];exact hoth id hid⟩
 ·have:i=m:=by omega
  subst this
  have d1:(((i:Nat):Int)<(i:Nat))=False:=eq_false (by omega)
  have hf:(List.range i).findIdx? p=none:=by
   rw [List.findIdx?_eq_none_iff]
   intro x hx
   exact hpre x (List.mem_range.1 hx)
  simp +contextual +decide (maxSteps:=1000000) only [↓ wP,wQ,tf,Nat.reduceAdd,ne_eq,t0,t1,t7,t8,d1,aX,aI,hf]
  exact bB hn hoth
theorem EV {O:bP} (ho:∀ a σ,O 114 a σ=none) (ho':∀ a σ,O 107 a σ=none) (g:FuncId) (cap:List AV) (a:AV) (xs:List AV) (ha:Sl a xs) (m:Nat) (hlen:xs.length=m) (c:Nat->List AV) (hix:∀ i,i<m->∀ {q:IntKind} {d:Option AV},eU (some 2) xs (.int q (i:Nat)) d=some (.pf (.agg (c i)))) (hcl:∀ i,i<m->(c i).length=2) (p:Nat->Bool) (s:Sto)
 (h:∀ i,i<m->∀ s',Sim s s'->RetS Try.prog O (.func (.func g) [] cap) [.agg (c i)] s' (.bool (p i))):RetS Try.prog O (.func (.func 107) [] []) [a,.func (.func g) [] cap] s (.bool ((List.range m).any p)):=by
 have hx:=fun s' hs=>QH ho g cap a xs ha m hlen c hix hcl p s' fun x hx s'' hs'=>h x hx s'' (Sim.trans (b:=s') hs hs')
 refine RetS.run (first:=[]) (args:=[a,.func (.func g) [] cap]) (cap:=[]) aR (ho' _ _) (by kernel_rfl) Try.func107 Try.ntmps107 Try.results107 rfl rfl ?_
 obtain ⟨n0,low0,o0⟩:=s
 show Wk _ _ _ _ ⟨9,none,107,Tr.leaf.lay 0 [a,.func (.func g) [] cap],[],⟨n0,n0,o0⟩,.no⟩ _
 simp +contextual +decide (maxSteps:=1000000) only [↓ wP,wQ,tf,Nat.reduceAdd,ne_eq,ho,aN]
 refine bL (ho _ _) ((hx ⟨n0,n0,o0⟩ (bB (Nat.le_refl _) fun _ _=>rfl)).wcall fun so hso=>?_)
 rw [aH]
 obtain ⟨n',low',o',e1,h1,h2⟩:=cH hso
 rw [e1]
 cases hf:(List.range m).findIdx? p with
 | none=>
   have hany:(List.range m).any p=false:=by
    rw [List.any_eq_false];intro x hx;have:=List.findIdx?_eq_none_iff.1 hf x hx;simp [this]
   simp +contextual +decide (maxSteps:=1000000) only [↓ wP,wQ,tf,Nat.reduceAdd,ne_eq,aX,aI,hany,show ((0:Int)<=-1)=False from eq_false (by omega)]
   exact bB h1 h2
 | some i=>
   have hany:(List.range m).any p=true:=by
    obtain ⟨h3,h4,_⟩:=List.findIdx?_eq_some_iff_getElem.1 hf
    rw [List.any_eq_true];exact ⟨_,List.getElem_mem h3,h4⟩
   simp +contextual +decide (maxSteps:=1000000) only [↓ wP,wQ,tf,Nat.reduceAdd,ne_eq,aX,aI,hany,show ((0:Int)<=(i:Nat))=True from eq_true (by omega)]
   exact bB h1 h2
theorem MM {O:bP} (ho1:∀ a σ,O 108 a σ=none) (g:FuncId) (cap:List AV) (cs:List AV) (hcs:cs.length=2) (hcc:cs.all AV.isCell=true) (b:Bool) (c:Nat) (s:Sto) (hc:s.get c=some (bE 0 [.func (.func g) [] cap]))
 (h:∀ s',Sim s s'->RetS Try.prog O (.func (.func g) [] cap) [.agg cs] s' (.bool b)):RetS Try.prog O (.func (.func 108) [] [.ptr c 0 0]) [.agg cs] s (.bool !b):=by
 refine RetS.run (first:=[]) (args:=[.agg cs]) (cap:=[.ptr c 0 0]) aR (ho1 _ _) (by kernel_rfl) Try.func108 Try.ntmps108 Try.results108 rfl rfl ?_
 obtain ⟨n0,low0,o0⟩:=s
 have hcn:c<n0:=Sto.get_lt hc
 rw [Sto.get_mk hcn]at hc
 have f0:=bK hcn
 have hz:0+2<=cs.length:=by omega
 show Wk _ _ _ _ ⟨8,none,108,Tr.leaf.lay 0 [.agg cs,.ptr c 0 0],[],⟨n0,n0,o0⟩,.no⟩ _
 simp +contextual +decide (maxSteps:=1000000) only [↓ wP,wQ,tf,Nat.reduceAdd,ne_eq,hc,hcc,hcs,hz,f0,bF,show aG cs 0 2=cs from by unfold aG;rw [List.drop_zero,List.take_of_length_le (by omega)]]
 refine cG.1 ((h _ (bB (by omega) fun id hid=>by rw [Tr.get_set_ne _ _ (by omega)])).wcall fun so hso=>?_)
 rw [aH]
 obtain ⟨n',low',o',e1,h1,h2⟩:=cH hso
 rw [e1]
 simp +contextual +decide (maxSteps:=1000000) only [↓ wP,wQ,tf,Nat.reduceAdd,ne_eq,aX,aI]
 exact bB (by omega) (fun id hid=>by rw [h2 id (by omega),Tr.get_set_ne _ _ (by omega)])
theorem QI {O:bP} (ho:∀ a σ,O 114 a σ=none) (ho':∀ a σ,O 107 a σ=none) (ho1:∀ a σ,O 108 a σ=none) (ho2:∀ a σ,O 82 a σ=none)
 (g:FuncId) (cap:List AV) (a:AV) (xs:List AV) (ha:Sl a xs) (m:Nat) (hlen:xs.length=m) (c:Nat->List AV) (hix:∀ i,i<m->∀ {q:IntKind} {d:Option AV},eU (some 2) xs (.int q (i:Nat)) d=some (.pf (.agg (c i)))) (hcl:∀ i,i<m->(c i).length=2) (hcc:∀ i,i<m->(c i).all AV.isCell=true) (p:Nat->Bool) (most:Nat) (s:Sto)
 (h:∀ i,i<m->∀ s',Sim s s'->RetS Try.prog O (.func (.func g) [] cap) [.agg (c i)] s' (.bool (p i))):RetS Try.prog O (.func (.func 82) [] []) [a,.int .i64 (most:Nat),.func (.func g) [] cap] s (.bool (decide (m<=most)&&(List.range m).all p)):=by
 refine RetS.run (first:=[]) (args:=[a,.int .i64 (most:Nat),.func (.func g) [] cap]) (cap:=[]) aR (ho2 _ _) (by kernel_rfl) Try.func82 Try.ntmps82 Try.results82 rfl rfl ?_
 obtain ⟨n0,low0,o0⟩:=s
 show Wk _ _ _ _ ⟨17,none,82,Tr.leaf.lay 0 [a,.int .i64 (most:Nat),.func (.func g) [] cap],[],⟨n0,n0,o0⟩,.no⟩ _
 have d1:(((m:Nat):Int)<=(most:Nat))=(m<=most):=propext (by omega)
 by_cases hl:m<=most
 ·simp +contextual +decide (maxSteps:=1000000) only [↓ wP,wQ,tf,Nat.reduceAdd,ne_eq,ha.len,hlen,d1,hl,ho',aN]
  refine bL (ho' _ _) ((EV ho ho' 108 [.ptr n0 0 0] a xs ha m hlen c hix hcl (fun i=>!p i) ⟨n0+1,n0,o0.set n0 (bE 0 [.func (.func g) [] cap])⟩ fun i hi s' hs=>?_).wcall fun so hso=>?_)
  ·refine MM ho1 g cap (c i) (hcl i hi) (hcc i hi) (p i) n0 s' (hs.get ?_) fun s'' hs'=>h i hi s'' ?_
   ·rw [Sto.get_mk (by omega),Tr.get_set_same]
   ·exact (bB (by omega) fun id hid=>by rw [Tr.get_set_ne _ _ (by omega)]:Sim ⟨n0,low0,o0⟩ ⟨n0+1,n0,o0.set n0 (bE 0 [.func (.func g) [] cap])⟩).trans (hs.trans hs')
  ·rw [aH]
   obtain ⟨n',low',o',e1,h1,h2⟩:=cH hso
   rw [e1]
   have hany:((List.range m).any fun x=>!p x) = !(List.range m).all p:=by rw [<-List.not_all_eq_any_not]
   rw [hany]
   simp +contextual +decide (maxSteps:=1000000) only [↓ wP,wQ,tf,Nat.reduceAdd,ne_eq,aX,aI,Bool.not_not]
   exact bB (by omega) (fun id hid=>by rw [h2 id (by omega),Tr.get_set_ne _ _ (by omega)])
 ·simp +contextual +decide (maxSteps:=1000000) only [↓ wP,wQ,tf,Nat.reduceAdd,ne_eq,ha.len,hlen,d1,hl,aX,aI]
  exact ⟨by simp,bB (by omega) (fun id hid=>by rw [Tr.get_set_ne _ _ (by omega)])⟩
theorem QJ {O:bP} (ho:∀ a σ,O 115 a σ=none) (g:FuncId) (cap:List AV) (a:AV) (xs:List AV) (ha:Sl a xs) (m:Nat) (hlen:xs.length=m) (c:Nat->List AV) (hix:∀ i,i<m->∀ {q:IntKind} {d:Option AV},eU (some 3) xs (.int q (i:Nat)) d=some (.pf (.agg (c i)))) (hcl:∀ i,i<m->(c i).length=3) (p:Nat->Bool) (s:Sto)
 (h:∀ i,i<m->∀ s',Sim s s'->RetS Try.prog O (.func (.func g) [] cap) [.agg (c i)] s' (.bool (p i))):RetS Try.prog O (.func (.func 115) [] []) [a,.func (.func g) [] cap] s (.int .i64 (match (List.range m).findIdx? p with | some i=>((i:Nat):Int) | none=>-1)):=by
 have hll:=ha.2
 refine RetS.run (first:=[]) (args:=[a,.func (.func g) [] cap]) (cap:=[]) aR (ho _ _) (by kernel_rfl) Try.func115 Try.ntmps115 Try.results115 rfl rfl ?_
 obtain ⟨n0,low0,o0⟩:=s
 show Wk _ _ _ _ ⟨19,none,115,Tr.leaf.lay 0 [a,.func (.func g) [] cap],[],⟨n0,n0,o0⟩,.no⟩ _
 simp +contextual +decide (maxSteps:=1000000) only [↓ wP,wQ,tf,Nat.reduceAdd,ne_eq,ha.len,hlen]
 refine cB (fun i e=>∃ t n low o,e=⟨19,none,115,t,[],⟨n,low,o⟩,.no⟩/\t.val 0=a/\t.val 1=.func (.func g) [] cap/\t.val 7=.int .i64 (m:Nat)/\t.val 8=.int .i64 (i:Nat)/\i<=m/\(∀ j,j<i->p j=false)/\n0<=n/\∀ id,id<n0->o.get id=o0.get id) (fun i=>m-i) 0
  ⟨_,n0,n0,o0,rfl,by simp +decide only [↓ aB,aD,aC],by simp +decide only [↓ aB,aD,aC],by simp +decide only [↓ aB,aD,aC],by simp +decide only [↓ aB,aD,aC];rfl,Nat.zero_le _,fun j hj=>by omega,Nat.le_refl _,fun _ _=>rfl⟩ ?_
 rintro i _ ⟨t,n,low,o,rfl,t0,t1,t7,t8,hi,hpre,hn,hoth⟩
 by_cases hlt:i<m
 ·have d1:((i:Int)<(m:Nat))=True:=eq_true (by omega)
  have d5:=bH (i:=i) (by omega)
  have x1:=fun {q d}=>hix i hlt (q:=q) (d:=d)
  have x2:=hcl i hlt
  have x3:=h i hlt
  generalize c i=cs at *
  simp +contextual +decide (maxSteps:=1000000) only [↓ wP,wQ,tf,Nat.reduceAdd,ne_eq,ha.idx,t0,t1,t7,t8,d1,x1,cM,x2]
  refine cG.1 ((x3 ⟨n,low,o⟩ (bB (low:=low0) hn hoth)).wcall fun so hso=>?_)
  rw [aH]
  obtain ⟨n',low',o',e1,h1,h2⟩:=cH hso
  rw [e1]
  cases hp:p i with
  | true=>
    have hf:(List.range m).findIdx? p=some i:=by
     rw [List.findIdx?_eq_some_iff_getElem]
     refine ⟨by simpa using hlt,by simpa using hp,fun j hj=>?_⟩
     have:=hpre j hj
     simpa using this
    simp +contextual +decide (maxSteps:=1000000) only [↓ wP,wQ,tf,Nat.reduceAdd,ne_eq,t0,t1,t7,t8,aX,aI,hf]
    exact bB (by omega) (fun id hid=>by rw [h2 id (by omega)];exact hoth id hid)
  | false=>
    simp +contextual +decide (maxSteps:=1000000) only [↓ wP,wQ,tf,Nat.reduceAdd,ne_eq,t0,t1,t7,t8,d5]
    exact ⟨i+1,by show _-_<_-_;omega,_,n',low',o',rfl,by simp +decide only [↓ aB,aD,aC,t0],by simp +decide only [↓ aB,aD,aC,t1],by simp +decide only [↓ aB,aD,aC,t7],by simp +decide only [↓ aB,aD,aC],hlt,fun j hj=>by
     rcases Nat.lt_succ_iff_lt_or_eq.1 hj with hj | rfl
     ·exact hpre j hj
     ·exact hp,by omega,fun id hid=>by rw [h2 id (by omega)];exact hoth id hid⟩
 ·have:i=m:=by omega
  subst this
  have d1:(((i:Nat):Int)<(i:Nat))=False:=eq_false (by omega)
  have hf:(List.range i).findIdx? p=none:=by
   rw [List.findIdx?_eq_none_iff]
   intro x hx
   exact hpre x (List.mem_range.1 hx)
  simp +contextual +decide (maxSteps:=1000000) only [↓ wP,wQ,tf,Nat.reduceAdd,ne_eq,t0,t1,t7,t8,d1,aX,aI,hf]
  exact bB hn hoth
theorem EW {O:bP} (ho:∀ a σ,O 115 a σ=none) (ho':∀ a σ,O 109 a σ=none) (g:FuncId) (cap:List AV) (a:AV) (xs:List AV) (ha:Sl a xs) (m:Nat) (hlen:xs.length=m) (c:Nat->List AV) (hix:∀ i,i<m->∀ {q:IntKind} {d:Option AV},eU (some 3) xs (.int q (i:Nat)) d=some (.pf (.agg (c i)))) (hcl:∀ i,i<m->(c i).length=3) (p:Nat->Bool) (s:Sto)
 (h:∀ i,i<m->∀ s',Sim s s'->RetS Try.prog O (.func (.func g) [] cap) [.agg (c i)] s' (.bool (p i))):RetS Try.prog O (.func (.func 109) [] []) [a,.func (.func g) [] cap] s (.bool ((List.range m).any p)):=by
 have hx:=fun s' hs=>QJ ho g cap a xs ha m hlen c hix hcl p s' fun x hx s'' hs'=>h x hx s'' (Sim.trans (b:=s') hs hs')
 refine RetS.run (first:=[]) (args:=[a,.func (.func g) [] cap]) (cap:=[]) aR (ho' _ _) (by kernel_rfl) Try.func109 Try.ntmps109 Try.results109 rfl rfl ?_
 obtain ⟨n0,low0,o0⟩:=s
 show Wk _ _ _ _ ⟨9,none,109,Tr.leaf.lay 0 [a,.func (.func g) [] cap],[],⟨n0,n0,o0⟩,.no⟩ _
 simp +contextual +decide (maxSteps:=1000000) only [↓ wP,wQ,tf,Nat.reduceAdd,ne_eq,ho,aN]
 refine bL (ho _ _) ((hx ⟨n0,n0,o0⟩ (bB (Nat.le_refl _) fun _ _=>rfl)).wcall fun so hso=>?_)
 rw [aH]
 obtain ⟨n',low',o',e1,h1,h2⟩:=cH hso
 rw [e1]
 cases hf:(List.range m).findIdx? p with
 | none=>
   have hany:(List.range m).any p=false:=by
    rw [List.any_eq_false];intro x hx;have:=List.findIdx?_eq_none_iff.1 hf x hx;simp [this]
   simp +contextual +decide (maxSteps:=1000000) only [↓ wP,wQ,tf,Nat.reduceAdd,ne_eq,aX,aI,hany,show ((0:Int)<=-1)=False from eq_false (by omega)]
   exact bB h1 h2
 | some i=>
   have hany:(List.range m).any p=true:=by
    obtain ⟨h3,h4,_⟩:=List.findIdx?_eq_some_iff_getElem.1 hf
    rw [List.any_eq_true];exact ⟨_,List.getElem_mem h3,h4⟩
   simp +contextual +decide (maxSteps:=1000000) only [↓ wP,wQ,tf,Nat.reduceAdd,ne_eq,aX,aI,hany,show ((0:Int)<=(i:Nat))=True from eq_true (by omega)]
   exact bB h1 h2
theorem MN {O:bP} (ho1:∀ a σ,O 110 a σ=none) (g:FuncId) (cap:List AV) (cs:List AV) (hcs:cs.length=3) (hcc:cs.all AV.isCell=true) (b:Bool) (c:Nat) (s:Sto) (hc:s.get c=some (bE 0 [.func (.func g) [] cap]))
 (h:∀ s',Sim s s'->RetS Try.prog O (.func (.func g) [] cap) [.agg cs] s' (.bool b)):RetS Try.prog O (.func (.func 110) [] [.ptr c 0 0]) [.agg cs] s (.bool !b):=by
 refine RetS.run (first:=[]) (args:=[.agg cs]) (cap:=[.ptr c 0 0]) aR (ho1 _ _) (by kernel_rfl) Try.func110 Try.ntmps110 Try.results110 rfl rfl ?_
 obtain ⟨n0,low0,o0⟩:=s
 have hcn:c<n0:=Sto.get_lt hc
 rw [Sto.get_mk hcn]at hc
 have f0:=bK hcn
 have hz:0+3<=cs.length:=by omega
 show Wk _ _ _ _ ⟨8,none,110,Tr.leaf.lay 0 [.agg cs,.ptr c 0 0],[],⟨n0,n0,o0⟩,.no⟩ _
 simp +contextual +decide (maxSteps:=1000000) only [↓ wP,wQ,tf,Nat.reduceAdd,ne_eq,hc,hcc,hcs,hz,f0,bF,show aG cs 0 3=cs from by unfold aG;rw [List.drop_zero,List.take_of_length_le (by omega)]]
 refine cG.1 ((h _ (bB (by omega) fun id hid=>by rw [Tr.get_set_ne _ _ (by omega)])).wcall fun so hso=>?_)
 rw [aH]
 obtain ⟨n',low',o',e1,h1,h2⟩:=cH hso
 rw [e1]
 simp +contextual +decide (maxSteps:=1000000) only [↓ wP,wQ,tf,Nat.reduceAdd,ne_eq,aX,aI]
 exact bB (by omega) (fun id hid=>by rw [h2 id (by omega),Tr.get_set_ne _ _ (by omega)])
theorem CS {O:bP} (ho:∀ a σ,O 115 a σ=none) (ho':∀ a σ,O 109 a σ=none) (ho1:∀ a σ,O 110 a σ=none) (ho2:∀ a σ,O 84 a σ=none)
 (g:FuncId) (cap:List AV) (a:AV) (xs:List AV) (ha:Sl a xs) (m:Nat) (hlen:xs.length=m) (c:Nat->List AV) (hix:∀ i,i<m->∀ {q:IntKind} {d:Option AV},eU (some 3) xs (.int q (i:Nat)) d=some (.pf (.agg (c i)))) (hcl:∀ i,i<m->(c i).length=3) (hcc:∀ i,i<m->(c i).all AV.isCell=true) (p:Nat->Bool) (most:Nat) (s:Sto)
 (h:∀ i,i<m->∀ s',Sim s s'->RetS Try.prog O (.func (.func g) [] cap) [.agg (c i)] s' (.bool (p i))):RetS Try.prog O (.func (.func 84) [] []) [a,.int .i64 (most:Nat),.func (.func g) [] cap] s (.bool (decide (m<=most)&&(List.range m).all p)):=by
 refine RetS.run (first:=[]) (args:=[a,.int .i64 (most:Nat),.func (.func g) [] cap]) (cap:=[]) aR (ho2 _ _) (by kernel_rfl) Try.func84 Try.ntmps84 Try.results84 rfl rfl ?_
 obtain ⟨n0,low0,o0⟩:=s
 show Wk _ _ _ _ ⟨17,none,84,Tr.leaf.lay 0 [a,.int .i64 (most:Nat),.func (.func g) [] cap],[],⟨n0,n0,o0⟩,.no⟩ _
 have d1:(((m:Nat):Int)<=(most:Nat))=(m<=most):=propext (by omega)
 by_cases hl:m<=most
 ·simp +contextual +decide (maxSteps:=1000000) only [↓ wP,wQ,tf,Nat.reduceAdd,ne_eq,ha.len,hlen,d1,hl,ho',aN]
  refine bL (ho' _ _) ((EW ho ho' 110 [.ptr n0 0 0] a xs ha m hlen c hix hcl (fun i=>!p i) ⟨n0+1,n0,o0.set n0 (bE 0 [.func (.func g) [] cap])⟩ fun i hi s' hs=>?_).wcall fun so hso=>?_)
  ·refine MN ho1 g cap (c i) (hcl i hi) (hcc i hi) (p i) n0 s' (hs.get ?_) fun s'' hs'=>h i hi s'' ?_
   ·rw [Sto.get_mk (by omega),Tr.get_set_same]
   ·exact (bB (by omega) fun id hid=>by rw [Tr.get_set_ne _ _ (by omega)]:Sim ⟨n0,low0,o0⟩ ⟨n0+1,n0,o0.set n0 (bE 0 [.func (.func g) [] cap])⟩).trans (hs.trans hs')
  ·rw [aH]
   obtain ⟨n',low',o',e1,h1,h2⟩:=cH hso
   rw [e1]
   have hany:((List.range m).any fun x=>!p x) = !(List.range m).all p:=by rw [<-List.not_all_eq_any_not]
   rw [hany]
   simp +contextual +decide (maxSteps:=1000000) only [↓ wP,wQ,tf,Nat.reduceAdd,ne_eq,aX,aI,Bool.not_not]
   exact bB (by omega) (fun id hid=>by rw [h2 id (by omega),Tr.get_set_ne _ _ (by omega)])
 ·simp +contextual +decide (maxSteps:=1000000) only [↓ wP,wQ,tf,Nat.reduceAdd,ne_eq,ha.len,hlen,d1,hl,aX,aI]
  exact ⟨by simp,bB (by omega) (fun id hid=>by rw [Tr.get_set_ne _ _ (by omega)])⟩
theorem lJ {α:Type} [Inhabited α] (l:List α) (p:α->Bool):(List.range l.length).all (fun i=>p (l.getD i default))=l.all p:=by
 rw [Bool.eq_iff_iff,List.all_eq_true,List.all_eq_true]
 constructor
 ·intro h x hx
  obtain ⟨i,hi,rfl⟩:=List.mem_iff_getElem.1 hx
  have:=h i (List.mem_range.2 hi)
  rwa [aT hi]at this
 ·intro h i hi
  have hi':=List.mem_range.1 hi
  rw [aT hi'];exact h _ (List.getElem_mem _)
theorem aKw (l:List eA) {i:Nat} (h:i<l.length) {q:IntKind} {d:Option AV}:eU (some 2) (l.map fJ) (.int q (i:Nat)) d=some (.pf (.agg (dW (l.getD i default)))):=aPp l h
theorem everyVals {O:bP} (ho:∀ a σ,O 114 a σ=none) (ho':∀ a σ,O 107 a σ=none) (ho1:∀ a σ,O 108 a σ=none) (ho2:∀ a σ,O 82 a σ=none)
 (g:FuncId) (cap:List AV) (a:AV) (l:List eA) (ha:Sl a (l.map fJ)) (p:eA->Bool) (most:Nat) (s:Sto)
 (h:∀ x∈l,∀ s',Sim s s'->RetS Try.prog O (.func (.func g) [] cap) [fJ x] s' (.bool (p x))):RetS Try.prog O (.func (.func 82) [] []) [a,.int .i64 (most:Nat),.func (.func g) [] cap] s (.bool (decide (l.length<=most)&&l.all p)):=by
 have:=QI ho ho' ho1 ho2 g cap a _ ha l.length (by simp) (fun i=>dW (l.getD i default)) (fun i hi {q d}=>aKw l hi) (fun _ _=>rfl) (fun _ _=>rfl) (fun i=>p (l.getD i default)) most s (fun i hi s' hs=>h _ (by rw [aT hi];exact List.getElem_mem _) s' hs)
 rwa [lJ]at this
end
end Go.Proofs.Ytajngkkihadgfaa
/-
 The program of images: objects that can be stored.
-/
namespace Go.Proofs.Ytajngkkihadgfaa
open Go.Abs Go Go.Abs.TryF
noncomputable section
set_option maxRecDepth 10000
def BC:List AV->Option AV
 | [a]=>(sM a).map fun f=>.bool (nP f)
 | _=>none
theorem QK {a:AV} {f:Fr} (h:sM a=some f):BC [a]=some (.bool (nP f)):=by simp [BC,h]
abbrev L82:List kL:=[ent 67 inV,ent 83 QN]
theorem aBl (x:eA) (s:Sto):RetS Try.prog (orcL L82) (.func (.func 83) [] []) [fJ x] s (.bool (dF x)):=.orc (by
 show orcL L82 _ [fJ x] s=_
 rw [nW (by decide),ent_same];rfl)
theorem TS (a:AV) (l:List eA) (h:cE a=some l) (s:Sto):RetS Try.prog (orcL L82) (.func (.func 82) [] []) [a,.int .i64 30,.func (.func 83) [] []] s (.bool (eF l)):=
 everyVals (fun _ _=>rfl) (fun _ _=>rfl) (fun _ _=>rfl) (fun _ _=>rfl) 83 [] a l (hH h) dF 30 s fun x _ s' _=>aBl x s'
theorem iFramed_ok:Abs.Ok Try.prog 85 BC:=by
 intro args v hg
 match args,hg with
 | [a],hg=>
   obtain ⟨f,hf,rfl⟩:=Option.map_eq_some_iff.1 hg
   have hund:=(MR hf).und
   obtain ⟨e,w,rfl,he,hw⟩:=nR hf
   have ce:=cL he
   have cw:=cL hw
   refine bQ (L:=L82) (elist_cons iIn_ok.ent (elist_cons iValued_ok.ent bC)) aR (by kernel_rfl) Try.func85 Try.ntmps85 Try.results85 rfl rfl (aF hund aO) gQ ?_
   cases k1:iU f.node 0 1073741824 with
   | false=>
     simp +contextual +decide (maxSteps:=1000000) only [↓ wP,wQ,tf,Nat.reduceAdd,ne_eq,ce,cw,jM,k1]
     simp [nP,k1]
   | true=>
     simp +contextual +decide (maxSteps:=1000000) only [↓ wP,wQ,tf,Nat.reduceAdd,ne_eq,ce,cw,jM,k1,show ∀ a σ,orcL L82 82 a σ=none from fun _ _=>rfl,aN]
     refine bL rfl ((TS e f.env he _).wcall fun so hso=>?_)
     rw [aH]
     obtain ⟨n1,low1,o1,e1,h1,h2⟩:=cH hso
     rw [e1]
     have g0:o1.get 0=some (bE 0 [.int .i64 f.node,e,w]):=by rw [h2 0 (by omega),Tr.get_set_same]
     have f0:=bK (show 0<n1 by omega)
     cases k2:eF f.env with
     | false=>
       simp +contextual +decide (maxSteps:=1000000) only [↓ wP,wQ,tf,Nat.reduceAdd,ne_eq]
       simp [nP,k1,k2]
     | true=>
       simp +contextual +decide (maxSteps:=1000000) only [↓ wP,wQ,tf,Nat.reduceAdd,ne_eq,g0,f0,ce,cw,show ∀ a σ,orcL L82 82 a σ=none from fun _ _=>rfl,aN]
       refine bL rfl ((TS w f.vals hw _).wcall fun so hso=>?_)
       rw [aH]
       obtain ⟨n2,low2,o2,e2,_,_⟩:=cH hso
       rw [e2]
       simp +contextual +decide (maxSteps:=1000000) only [↓ wP,wQ,tf,Nat.reduceAdd,ne_eq]
       simp [nP,k1,k2]
abbrev L36:List kL:=[ent 67 inV,ent 69 nE,ent 83 QN,ent 85 BC]
theorem aBm (x:eA) (s:Sto):RetS Try.prog (orcL L36) (.func (.func 83) [] []) [fJ x] s (.bool (dF x)):=.orc (by
 show orcL L36 _ [fJ x] s=_
 rw [nW (by decide),nW (by decide),ent_same];rfl)
theorem aGm (a:AV) (l:List eA) (h:cE a=some l) (s:Sto):RetS Try.prog (orcL L36) (.func (.func 82) [] []) [a,.int .i64 30,.func (.func 83) [] []] s (.bool (eF l)):=
 everyVals (fun _ _=>rfl) (fun _ _=>rfl) (fun _ _=>rfl) (fun _ _=>rfl) 83 [] a l (hH h) dF 30 s fun x _ s' _=>aBm x s'
theorem yS {a:AV} {l:List Fr} (h:nQ a=some l):∃ (xs:List AV) (c:Nat->List AV),Sl a xs/\xs.length=l.length/\(∀ i,i<l.length->(∀ {q:IntKind} {d:Option AV},eU (some 3) xs (.int q (i:Nat)) d=some (.pf (.agg (c i))))/\(c i).length=3/\(c i).all AV.isCell=true/\sM (.agg (c i))=some (l.getD i default)):=by
 obtain ⟨xs,h1,h2,h3⟩:=wX h
 refine ⟨xs,fun i=>(xs.getD i .top).cells,h1,h2,fun i hi=>?_⟩
 have hx:i<xs.length:=by omega
 obtain ⟨e,v,q1,q2,q3⟩:=nR (h3 i hx hi)
 have hxi:xs.getD i .top=.agg [.int .i64 l[i].node,e,v]:=by rw [aT hx];exact q1
 refine ⟨fun {q d}=>?_,by simp only [hxi];rfl,?_,?_⟩
 ·simp only [hxi]
  refine iL (by omega) (by omega) ?_ rfl
  rw [Int.toNat_natCast,List.getElem?_eq_getElem hx,q1];rfl
 ·simp only [hxi,AV.cells]
  simp only [List.all_cons,List.all_nil,cL q2,cL q3];rfl
 ·simp only [hxi,AV.cells]
  rw [aT hi,<-h3 i hx hi,q1]
theorem aBn (a:AV) (l:List Fr) (h:nQ a=some l) (s:Sto):RetS Try.prog (orcL L36) (.func (.func 84) [] []) [a,.int .i64 40,.func (.func 85) [] []] s (.bool (zV l)):=by
 obtain ⟨xs,c,h1,h2,h3⟩:=yS h
 have:=CS (O:=orcL L36) (fun _ _=>rfl) (fun _ _=>rfl) (fun _ _=>rfl) (fun _ _=>rfl) 85 [] a xs h1 l.length h2 c (fun i hi {q d}=>(h3 i hi).1) (fun i hi=>(h3 i hi).2.1) (fun i hi=>(h3 i hi).2.2.1) (fun i=>nP (l.getD i default)) 40 s (fun i hi s' hs=>.orc (by
  show orcL L36 _ [.agg (c i)] s'=_
  rw [nW (by decide),nW (by decide),nW (by decide),ent_same,QK (h3 i hi).2.2.2];rfl))
 rwa [lJ]at this
theorem formed_ok:Abs.Ok Try.prog 44 nF:=by
 intro args v hg
 match args,hg with
 | [a],hg=>
   obtain ⟨o,ho,rfl⟩:=Option.map_eq_some_iff.1 hg
   have hund:=(wY ho).und
   obtain ⟨vs,fs,rfl,hvs,hfs⟩:=jL ho
   have c1:=cL hvs
   have c2:=iJ hfs
   refine bQ (L:=L36) (elist_cons iIn_ok.ent (elist_cons iNumber_ok.ent (elist_cons iValued_ok.ent (elist_cons iFramed_ok.ent bC)))) aR (by kernel_rfl) Try.func44 Try.ntmps44 Try.results44 rfl rfl (aF hund aO) gQ ?_
   cases k1:iU o.form 1 6 with
   | false=>
     simp +contextual +decide (maxSteps:=1000000) only [↓ wP,wQ,tf,Nat.reduceAdd,ne_eq,c1,c2,jM,k1]
     simp [gV,k1]
   | true=>
   cases k2:cS o.n with
   | false=>
     simp +contextual +decide (maxSteps:=1000000) only [↓ wP,wQ,tf,Nat.reduceAdd,ne_eq,c1,c2,jM,k1,eE,k2]
     simp [gV,k1,k2]
   | true=>
     simp +contextual +decide (maxSteps:=1000000) only [↓ wP,wQ,tf,Nat.reduceAdd,ne_eq,c1,c2,jM,k1,eE,k2,show ∀ a σ,orcL L36 82 a σ=none from fun _ _=>rfl,aN]
     refine bL rfl ((aGm vs o.vals hvs _).wcall fun so hso=>?_)
     rw [aH]
     obtain ⟨n1,low1,o1,e1,h1,h2⟩:=cH hso
     rw [e1]
     have g0:o1.get 0=some (bE 0 [.int .i64 o.form,.int .i64 o.n,vs,fs]):=by rw [h2 0 (by omega),Tr.get_set_same]
     have f0:=bK (show 0<n1 by omega)
     cases k3:eF o.vals with
     | false=>
       simp +contextual +decide (maxSteps:=1000000) only [↓ wP,wQ,tf,Nat.reduceAdd,ne_eq]
       simp [gV,k1,k2,k3]
     | true=>
       simp +contextual +decide (maxSteps:=1000000) only [↓ wP,wQ,tf,Nat.reduceAdd,ne_eq,g0,f0,c1,c2,show ∀ a σ,orcL L36 84 a σ=none from fun _ _=>rfl,aN]
       refine bL rfl ((aBn fs o.frs hfs _).wcall fun so hso=>?_)
       rw [aH]
       obtain ⟨n2,low2,o2,e2,_,_⟩:=cH hso
       rw [e2]
       simp +contextual +decide (maxSteps:=1000000) only [↓ wP,wQ,tf,Nat.reduceAdd,ne_eq]
       simp [gV,k1,k2,k3]
end
end Go.Proofs.Ytajngkkihadgfaa
/-
 The program of images: its writer.
-/
namespace Go.Proofs.Ytajngkkihadgfaa
open Go.Abs Go Go.Abs.TryF
noncomputable section
set_option maxRecDepth 10000
def WBo (n:Nat) (o:Tr AObj) (w a:Nat) (bs:List Nat):Prop:=w<n/\a<n/\((bs=[]/\o.get w=some (bE 0 [.nils])/\a=w)∨(bs≠[]/\∃ g,o.get w=some (bE 0 [.sl a g 0 bs.length (.room 1)])/\o.get a=some (bE g (bs.map encB))/\a≠w))
def FrW (n:Nat) (o:Tr AObj) (w a n':Nat) (o':Tr AObj) (a':Nat):Prop:=n<=n'/\(a'=a∨n<=a')/\∀ id,id<n->id≠w->id≠a->o'.get id=o.get id
theorem FrW.refl {n:Nat} {o:Tr AObj} {w a:Nat}:FrW n o w a n o a:=⟨Nat.le_refl _,.inl rfl,fun _ _ _ _=>rfl⟩
theorem FrW.trans {n n' n'' w a a' a'':Nat} {o o' o'':Tr AObj} (h:FrW n o w a n' o' a') (h':FrW n' o' w a' n'' o'' a''):FrW n o w a n'' o'' a'':=by
 obtain ⟨h1,h2,h3⟩:=h
 obtain ⟨k1,k2,k3⟩:=h'
 refine ⟨by omega,by omega,fun id q1 q2 q3=>?_⟩
 rw [k3 id (by omega) q2 (by omega),h3 id q1 q2 q3]
def RetW (P:Program) (O:bP) (fv:AV) (args:List AV) (n low:Nat) (o:Tr AObj) (w a:Nat) (bs:List Nat):Prop:=∃ n' low' o' a',low'<=w/\WBo n' o' w a' bs/\FrW n o w a n' o' a'/\∃ k rr,aQ P O k fv args ⟨n,low,o⟩ .no=some (.ret (.tuple []) (some ⟨n',low',o'⟩),rr)
theorem RetW.wcall {P:Program} {O:bP} {fv:AV} {args:List AV} {n low:Nat} {o:Tr AObj} {w a:Nat} {bs:List Nat} {K:CRes->Prop} (h:RetW P O fv args n low o w a bs) (hK:∀ n' low' o' a',low'<=w->WBo n' o' w a' bs->FrW n o w a n' o' a'->K (.ret (.tuple []) (some ⟨n',low',o'⟩))):Wcall P O fv args ⟨n,low,o⟩ K:=by
 obtain ⟨n',low',o',a',h1,h2,h3,k,rr,h4⟩:=h
 exact ⟨k,_,_,h4,hK n' low' o' a' h1 h2 h3⟩
def aGn (P:Program) (rs:List ResultVar) (n:Nat) (o:Tr AObj) (w a:Nat) (bs:List Nat):Ex->Env->Prop
 | .normal,e=>e.ds=[]/\e.r=.no/\rs=[]/\∃ n' low' o' a',e.s=⟨n',low',o'⟩/\low'<=w/\WBo n' o' w a' bs/\FrW n o w a n' o' a'
 | .ret,e=>e.ds=[]/\e.r=.no/\rs=[]/\∃ n' low' o' a',e.s=⟨n',low',o'⟩/\low'<=w/\WBo n' o' w a' bs/\FrW n o w a n' o' a'
 | _,_=>False
theorem jI {P:Program} {n:Nat} {o:Tr AObj} {w a:Nat} {bs:List Nat} {nt:Nat} {ro:Option Nat} {fn:FuncId} {t:Tr AV} {n' low':Nat} {o':Tr AObj}:aGn P [] n o w a bs .normal ⟨nt,ro,fn,t,[],⟨n',low',o'⟩,.no⟩↔∃ a',low'<=w/\WBo n' o' w a' bs/\FrW n o w a n' o' a':=by
 simp only [aGn,true_and,Sto.mk.injEq]
 constructor
 ·rintro ⟨_,_,_,a',⟨rfl,rfl,rfl⟩,h⟩;exact ⟨a',h⟩
 ·rintro ⟨a',h⟩;exact ⟨_,_,_,a',⟨rfl,rfl,rfl⟩,h⟩
theorem aKx {P:Program} {n:Nat} {o:Tr AObj} {w a:Nat} {bs:List Nat} {nt:Nat} {ro:Option Nat} {fn:FuncId} {t:Tr AV} {n' low':Nat} {o':Tr AObj}:aGn P [] n o w a bs .ret ⟨nt,ro,fn,t,[],⟨n',low',o'⟩,.no⟩↔∃ a',low'<=w/\WBo n' o' w a' bs/\FrW n o w a n' o' a':=jI (P:=P) (ro:=ro) (fn:=fn) (nt:=nt) (t:=t) (low':=low')
theorem RetW.run {P:Program} {O:bP} {g:FuncId} {first cap args:List AV} {n low:Nat} {o:Tr AObj} {w a:Nat} {bs:List Nat} {fn:Func} {c:Code} {N:Nat} {rs:List ResultVar} (H:fK) (ho:O g (first++args++cap) ⟨n,low,o⟩=none) (hok:okFn P g=true) (hf:P.funcs[g]?=some fn) (hn:fn.ntmps=N) (hr:fn.results=rs.toArray) (hb:fn.body=some c)
 (ha:Nat.ble (first++args++cap).length N=true) (hw:w<n) (h:Wk P O H c ⟨N,none,g,Tr.leaf.lay 0 (first++args++cap),[],⟨n,n,o⟩,.no⟩ (aGn P rs n o w a bs)):RetW P O (.func (.func g) first cap) args n low o w a bs:=by
 have key:Wcall P O (.func (.func g) first cap) args ⟨n,low,o⟩ fun res=>∃ n' low' o' a',res=.ret (.tuple []) (some ⟨n',low',o'⟩)/\low'<=w/\WBo n' o' w a' bs/\FrW n o w a n' o' a':=by
  refine lN ho hok hf hb ?_
  have he:IU fn g (first++args++cap) ⟨n,low,o⟩ .no=⟨N,none,g,Tr.leaf.lay 0 (first++args++cap),[],⟨n,n,o⟩,.no⟩:=mF hn ha
  rw [he]
  refine h.sound.mono fun ex e hq=>?_
  have key:e.ds=[]/\e.r=.no/\rs=[]/\(∃ n' low' o' a',e.s=⟨n',low',o'⟩/\low'<=w/\WBo n' o' w a' bs/\FrW n o w a n' o' a')->Lv P O fn none e (clR ⟨n,low,o⟩ fun res _=>∃ n' low' o' a',res=.ret (.tuple []) (some ⟨n',low',o'⟩)/\low'<=w/\WBo n' o' w a' bs/\FrW n o w a n' o' a'):=by
   rintro ⟨h1,h2,rfl,n',low',o',a',h3,h4,h5⟩
   refine jO h1 (vs:=[]) (by rw [hr];rfl) ?_
   show ∃ n' low' o' a',CRes.ret (.tuple []) (dE ⟨n,low,o⟩ (.tuple []) e)=_/\_
   rw [eL (by rw [h3];exact Nat.lt_of_le_of_lt h4 hw),h3]
   exact ⟨n',Nat.min low low',o',a',rfl,Nat.le_trans (Nat.min_le_right _ _) h4,h5⟩
  cases ex with
  | normal=>exact key hq
  | ret=>exact key hq
  | _=>exact hq.elim
 obtain ⟨k,res,rr,h1,n',low',o',a',rfl,h2,h3,h4⟩:=key
 exact ⟨n',low',o',a',h2,h3,h4,k,rr,h1⟩
def gT:Nat:=1099511627776
set_option maxHeartbeats 1000000 in
theorem iI {O:bP} (ho:∀ a σ,O 79 a σ=none) (n0 low0:Nat) (o0:Tr AObj) (w a0:Nat) (bs:List Nat) (m0:Nat) (hm:m0<9223372036854775808) (hb:bs.length+(bY m0).length<=gT) (hw:WBo n0 o0 w a0 bs):
 RetW Try.prog O (.func (.func 79) [] []) [.ptr w 0 0,.int .i64 (m0:Nat)] n0 low0 o0 w a0 (bs++bY m0):=by
 have hw':=hw.1
 refine RetW.run (first:=[]) (args:=[.ptr w 0 0,.int .i64 (m0:Nat)]) (cap:=[]) aR (ho _ _) (by kernel_rfl) Try.func79 Try.ntmps79 Try.results79 rfl rfl hw' ?_
 show Wk _ _ _ _ ⟨32,none,79,Tr.leaf.lay 0 [.ptr w 0 0,.int .i64 (m0:Nat)],[],⟨n0,n0,o0⟩,.no⟩ _
 unfold gT at hb
 simp +contextual +decide (maxSteps:=1000000) only [↓ wP,wQ,tf,Nat.reduceAdd,ne_eq]
 refine cB (fun m e=>∃ t n low o a bs',e=⟨32,none,79,t,[],⟨n,low,o⟩,.no⟩/\t.val 0=.ptr w 0 0/\t.val 1=.int .i64 (m:Nat)/\WBo n o w a bs'/\FrW n0 o0 w a0 n o a/\bs'++bY m=bs++bY m0/\m<=m0) (fun m=>m) m0
  ⟨_,n0,n0,o0,a0,bs,rfl,by simp +decide only [↓ aB,aD,aC],by simp +decide only [↓ aB,aD,aC],hw,.refl,rfl,Nat.le_refl _⟩ ?_
 rintro m _ ⟨t,n,low,o,a,bs',rfl,t0,t1,⟨hwn,han,hcase⟩,hfr,hbs,hmm⟩
 have d1:(127<(m:Int))=(127<m):=propext (by omega)
 have hlen:bs'.length+(bY m).length=bs.length+(bY m0).length:=by rw [<-List.length_append,hbs,List.length_append]
 have f1:=bK hwn
 have f2:=bK han
 by_cases hlt:127<m
 ·have hu:bY m=(m%128+128)::bY (m/128):=by rw [bY,dif_pos hlt]
  have e1:Int.tmod (m:Int) 128=((m%128:Nat):Int):=dB
  have e2:IntKind.i64.wrap (((m%128:Nat):Int)+128)=((m%128+128:Nat):Int):=by rw [IntWalk.i64_in _ (by omega)];omega
  have e3:IntKind.u8.wrap ((m%128+128:Nat):Int)=((m%128+128:Nat):Int):=by rw [vE];omega
  have e4:IntKind.i64.wrap (Int.tdiv (m:Int) 128)=((m/128:Nat):Int):=by rw [show Int.tdiv (m:Int) 128=((m/128:Nat):Int) from iY,cF (by omega)]
  have hsmall:2*(bs'.length+1)+1024<=281474976710656/\bs'.length+1<4611686018427387904:=⟨by omega,by omega⟩
  rcases hcase with ⟨rfl,hg,rfl⟩ | ⟨hne,g,hg,hga,haw⟩
  ·simp +contextual +decide (maxSteps:=1000000) only [↓ wP,wQ,tf,Nat.reduceAdd,ne_eq,t0,t1,d1,hlt,e1,e2,e3,e4,hg,f1,bF,Nat.reduceMul,Nat.mul_one,Nat.zero_mul,Nat.zero_add]
   refine ⟨m/128,by show m/128<m;omega,_,n+1+1,_,_,n+1,[m%128+128],rfl,by simp +decide only [↓ aB,aD,aC,t0],by simp +decide only [↓ aB,aD,aC],⟨by omega,by omega,.inr ⟨by simp,0,?_,?_,by omega⟩⟩,hfr.trans ⟨by omega,.inr (by omega),fun id q1 q2 q3=>?_⟩,by rw [<-hbs,hu];rfl,by omega⟩
   ·simp +contextual +decide (maxSteps:=1000000) only [↓ wP,wQ,tf,Nat.reduceAdd,ne_eq,f1,bF,List.length_cons,List.length_nil]
   ·simp +contextual +decide (maxSteps:=1000000) only [↓ wP,wQ,tf,Nat.reduceAdd,ne_eq,f1,bF]
    rfl
   ·have f5:=bK q1
    simp +decide only [↓ aB,f5,q2,ne_eq]
  ·have f3:a≠w/\w≠a:=⟨haw,fun h=>haw h.symm⟩
   have hl1:(bs'.map encB).length=bs'.length:=List.length_map _
   simp +contextual +decide (maxSteps:=1000000) only [↓ wP,wQ,tf,Nat.reduceAdd,ne_eq,t0,t1,d1,hlt,e1,e2,e3,e4,hg,hga,f1,f2,f3,bF,hl1,hsmall,Nat.reduceMul,Nat.mul_one,Nat.zero_mul,Nat.zero_add]
   refine ⟨m/128,by show m/128<m;omega,_,n+1,_,_,a,bs'++[m%128+128],rfl,by simp +decide only [↓ aB,aD,aC,t0],by simp +decide only [↓ aB,aD,aC],⟨by omega,by omega,.inr ⟨by simp,g+1,?_,?_,haw⟩⟩,hfr.trans ⟨by omega,.inl rfl,fun id q1 q2 q3=>?_⟩,by rw [<-hbs,hu,List.append_assoc];rfl,by omega⟩
   ·simp +contextual +decide (maxSteps:=1000000) only [↓ wP,wQ,tf,Nat.reduceAdd,ne_eq,f1,bF,List.length_append,List.length_cons,List.length_nil]
   ·simp +contextual +decide (maxSteps:=1000000) only [↓ wP,wQ,tf,Nat.reduceAdd,ne_eq,f1,f2,f3,bF]
    rw [List.map_append];rfl
   ·have f5:=bK q1
    simp +decide only [↓ aB,f5,q2,q3,ne_eq]
 ·have hu:bY m=[m]:=by rw [bY,dif_neg hlt]
  have e3:IntKind.u8.wrap (m:Int)=(m:Int):=by rw [vE];omega
  have hsmall:2*(bs'.length+1)+1024<=281474976710656/\bs'.length+1<4611686018427387904:=⟨by rw [hu]at hlen;simp at hlen;omega,by rw [hu]at hlen;simp at hlen;omega⟩
  rw [<-hbs,hu]
  rcases hcase with ⟨rfl,hg,rfl⟩ | ⟨hne,g,hg,hga,haw⟩
  ·simp +contextual +decide (maxSteps:=1000000) only [↓ wP,wQ,tf,Nat.reduceAdd,ne_eq,t0,t1,d1,hlt,e3,hg,f1,bF,Nat.reduceMul,Nat.mul_one,Nat.zero_mul,Nat.zero_add,jI]
   refine ⟨n+1,Nat.min_le_left _ _,⟨by omega,by omega,.inr ⟨by simp,0,?_,?_,by omega⟩⟩,hfr.trans ⟨by omega,.inr (by omega),fun id q1 q2 q3=>?_⟩⟩
   ·simp +contextual +decide (maxSteps:=1000000) only [↓ wP,wQ,tf,Nat.reduceAdd,ne_eq,f1,bF,List.length_cons,List.length_nil]
   ·simp +contextual +decide (maxSteps:=1000000) only [↓ wP,wQ,tf,Nat.reduceAdd,ne_eq,f1,bF]
    rfl
   ·have f5:=bK q1
    simp +decide only [↓ aB,f5,q2,ne_eq]
  ·have f3:a≠w/\w≠a:=⟨haw,fun h=>haw h.symm⟩
   have hl1:(bs'.map encB).length=bs'.length:=List.length_map _
   simp +contextual +decide (maxSteps:=1000000) only [↓ wP,wQ,tf,Nat.reduceAdd,ne_eq,t0,t1,d1,hlt,e3,hg,hga,f1,f2,f3,bF,hl1,hsmall,Nat.reduceMul,Nat.mul_one,Nat.zero_mul,Nat.zero_add,jI]
   refine ⟨a,Nat.min_le_left _ _,⟨by omega,by omega,.inr ⟨by simp,g+1,?_,?_,haw⟩⟩,hfr.trans ⟨by omega,.inl rfl,fun id q1 q2 q3=>?_⟩⟩
   ·simp +contextual +decide (maxSteps:=1000000) only [↓ wP,wQ,tf,Nat.reduceAdd,ne_eq,f1,bF,List.length_append,List.length_cons,List.length_nil]
   ·simp +contextual +decide (maxSteps:=1000000) only [↓ wP,wQ,tf,Nat.reduceAdd,ne_eq,f1,f2,f3,bF]
    rw [List.map_append];rfl
   ·have f5:=bK q1
    simp +decide only [↓ aB,f5,q2,q3,ne_eq]
end
end Go.Proofs.Ytajngkkihadgfaa
/-
 The program of images: its writer zH values and lists.
-/
namespace Go.Proofs.Ytajngkkihadgfaa
open Go.Abs Go Go.Abs.TryF
noncomputable section
set_option maxRecDepth 10000
theorem TT {P:Program} {O:bP} {g:FuncId} {first args:List AV} {s:Sto} {K:CRes->Prop} (h:Wcall P O (.func (.func g) first []) args s K):DR (O g (first++args) s) K (aEa P O (.func (.func g) first []) args s K):=by
 have:=cG.1 h
 rwa [List.append_nil]at this
theorem jJ {O:bP} (ho:∀ a σ,O 79 a σ=none) (ho':∀ a σ,O 73 a σ=none) (n0 low0:Nat) (o0:Tr AObj) (w a0:Nat) (bs:List Nat) (m:Int) (hm:cS m=true) (hb:(bs++kC m).length<=gT) (hw:WBo n0 o0 w a0 bs):
 RetW Try.prog O (.func (.func 73) [] []) [.ptr w 0 0,.int .i64 m] n0 low0 o0 w a0 (bs++kC m):=by
 have hw':=hw.1
 have hm':=hm
 simp only [cS,iU,Bool.and_eq_true,decide_eq_true_eq]at hm'
 rw [List.length_append]at hb
 refine RetW.run (first:=[]) (args:=[.ptr w 0 0,.int .i64 m]) (cap:=[]) aR (ho' _ _) (by kernel_rfl) Try.func73 Try.ntmps73 Try.results73 rfl rfl hw' ?_
 show Wk _ _ _ _ ⟨15,none,73,Tr.leaf.lay 0 [.ptr w 0 0,.int .i64 m],[],⟨n0,n0,o0⟩,.no⟩ _
 have hz:=aBs hm
 by_cases h0:m<0
 ·have e1:IntKind.i64.wrap (-2*m)=-2*m:=IntWalk.i64_in _ (by omega)
  have e2:IntKind.i64.wrap (-2*m-1)=((UA m:Nat):Int):=by rw [IntWalk.i64_in _ (by omega),UA,if_pos h0];omega
  simp +contextual +decide (maxSteps:=1000000) only [↓ wP,wQ,tf,Nat.reduceAdd,ne_eq,h0,e1,e2,ho,aN]
  refine bL (ho _ _) ((iI ho n0 n0 o0 w a0 bs (UA m) (by omega) hb hw).wcall fun n1 low1 o1 a1 hl1 hw1 hf1=>?_)
  rw [aH]
  show bW _ _ _ _ _ _ _ (.val' _ ⟨n1,low1,o1⟩)
  simp +contextual +decide (maxSteps:=1000000) only [↓ wP,wQ,tf,Nat.reduceAdd,ne_eq,aKx]
  exact ⟨a1,hl1,hw1,hf1⟩
 ·have e2:IntKind.i64.wrap (2*m)=((UA m:Nat):Int):=by rw [IntWalk.i64_in _ (by omega),UA,if_neg h0];omega
  simp +contextual +decide (maxSteps:=1000000) only [↓ wP,wQ,tf,Nat.reduceAdd,ne_eq,h0,e2,ho,aN]
  refine bL (ho _ _) ((iI ho n0 n0 o0 w a0 bs (UA m) (by omega) hb hw).wcall fun n1 low1 o1 a1 hl1 hw1 hf1=>?_)
  rw [aH]
  show bW _ _ _ _ _ _ _ (.val' _ ⟨n1,low1,o1⟩)
  simp +contextual +decide (maxSteps:=1000000) only [↓ wP,wQ,tf,Nat.reduceAdd,ne_eq,jI]
  exact ⟨a1,hl1,hw1,hf1⟩
set_option maxHeartbeats 1000000 in
theorem WJ {O:bP} (ho:∀ a σ,O 79 a σ=none) (ho':∀ a σ,O 74 a σ=none) (n0 low0:Nat) (o0:Tr AObj) (w a0:Nat) (bs:List Nat) (hw:WBo n0 o0 w a0 bs) (g:FuncId) (first:List AV)
 (av:AV) (xs:List AV) (ha:Sl av xs) (m:Nat) (hlen:xs.length=m) (c:Nat->List AV) (hix:∀ i,i<m->∀ {q:IntKind} {d:Option AV},eU (some 2) xs (.int q (i:Nat)) d=some (.pf (.agg (c i)))) (hcl:∀ i,i<m->(c i).length=2) (hcc:∀ i,i<m->(c i).all AV.isCell=true)
 (B:Nat->List Nat) (hb:(bs++bY m++(List.range m).flatMap B).length<=gT)
 (h:∀ i,i<m->∀ n low o a bs',WBo n o w a bs'->(bs'++B i).length<=gT->RetW Try.prog O (.func (.func g) first []) [.agg (c i)] n low o w a (bs'++B i)):
 RetW Try.prog O (.func (.func 74) [] []) [.ptr w 0 0,av,.func (.func g) first []] n0 low0 o0 w a0 (bs++bY m++(List.range m).flatMap B):=by
 have hw':=hw.1
 have hll:=ha.2
 refine RetW.run (first:=[]) (args:=[.ptr w 0 0,av,.func (.func g) first []]) (cap:=[]) aR (ho' _ _) (by kernel_rfl) Try.func74 Try.ntmps74 Try.results74 rfl rfl hw' ?_
 show Wk _ _ _ _ ⟨22,none,74,Tr.leaf.lay 0 [.ptr w 0 0,av,.func (.func g) first []],[],⟨n0,n0,o0⟩,.no⟩ _
 simp +contextual +decide (maxSteps:=1000000) only [↓ wP,wQ,tf,Nat.reduceAdd,ne_eq,ha.len,hlen,ho,aN]
 refine bL (ho _ _) ((iI ho n0 n0 o0 w a0 bs m (by omega) (by rw [List.length_append]at hb;rw [<-List.length_append];omega) hw).wcall fun n1 low1 o1 a1 hl1 hw1 hf1=>?_)
 rw [aH]
 show bW _ _ _ _ _ _ _ (.val' _ ⟨n1,low1,o1⟩)
 simp +contextual +decide (maxSteps:=1000000) only [↓ wP,wQ,tf,Nat.reduceAdd,ne_eq,ha.len,hlen]
 refine cB (fun i e=>∃ t n low o a,e=⟨22,none,74,t,[],⟨n,low,o⟩,.no⟩/\t.val 2=.func (.func g) first []/\t.val 12=av/\t.val 13=.int .i64 (m:Nat)/\t.val 14=.int .i64 (i:Nat)/\i<=m/\low<=w/\WBo n o w a (bs++bY m++(List.range i).flatMap B)/\FrW n0 o0 w a0 n o a) (fun i=>m-i) 0
  ⟨_,n1,low1,o1,a1,rfl,by simp +decide only [↓ aB,aD,aC],by simp +decide only [↓ aB,aD,aC],by simp +decide only [↓ aB,aD,aC],by simp +decide only [↓ aB,aD,aC];rfl,Nat.zero_le _,hl1,by simpa using hw1,hf1⟩ ?_
 rintro i _ ⟨t,n,low,o,a,rfl,t2,t12,t13,t14,hi,hlow,hwi,hfi⟩
 by_cases hlt:i<m
 ·have d1:((i:Int)<(m:Nat))=True:=eq_true (by omega)
  have d5:=bH (i:=i) (by omega)
  have x1:=fun {q d}=>hix i hlt (q:=q) (d:=d)
  have x2:=hcl i hlt
  have x3:=hcc i hlt
  have x4:=h i hlt
  have hz:0+2<=(c i).length:=by omega
  have hsl:aG (c i) 0 2=c i:=by unfold aG;rw [List.drop_zero,List.take_of_length_le (by omega)]
  have hrs:(List.range (i+1)).flatMap B=(List.range i).flatMap B++B i:=by rw [List.range_succ,List.flatMap_append];simp
  have hle:(bs++bY m++(List.range i).flatMap B++B i).length<=gT:=by
   have:((List.range (i+1)).flatMap B).length<=((List.range m).flatMap B).length:=by
    obtain ⟨k,rfl⟩:=Nat.exists_eq_add_of_le (show i+1<=m from hlt)
    rw [@List.range_add (i+1) k,List.flatMap_append,List.length_append];omega
   rw [hrs]at this
   simp only [List.length_append]at hb this ⊢;omega
  generalize c i=cs at *
  have f1:=bK hwi.1
  have f2:=bK hwi.2.1
  simp +contextual +decide (maxSteps:=1000000) only [↓ wP,wQ,tf,Nat.reduceAdd,ne_eq,ha.idx,t2,t12,t13,t14,d1,x1,cM,x2,x3,hz,hsl,bF]
  have hwi':WBo (n+1) ((o.set n (bE 0 [.int .i64 0,.int .i64 0])).set n (bE 0 cs)) w a (bs++bY m++(List.range i).flatMap B):=by
   obtain ⟨q1,q2,q3⟩:=hwi
   refine ⟨by omega,by omega,?_⟩
   rcases q3 with ⟨k1,k2,k3⟩ | ⟨k1,g',k2,k3,k4⟩
   ·exact .inl ⟨k1,by rw [Tr.get_set_ne _ _ (by omega),Tr.get_set_ne _ _ (by omega)];exact k2,k3⟩
   ·exact .inr ⟨k1,g',by rw [Tr.get_set_ne _ _ (by omega),Tr.get_set_ne _ _ (by omega)];exact k2,by rw [Tr.get_set_ne _ _ (by omega),Tr.get_set_ne _ _ (by omega)];exact k3,k4⟩
  refine TT ((x4 (n+1) _ _ a _ hwi' hle).wcall fun n2 low2 o2 a2 hl2 hw2 hf2=>?_)
  rw [aH]
  show bW _ _ _ _ _ _ _ (.val' _ ⟨n2,low2,o2⟩)
  simp +contextual +decide (maxSteps:=1000000) only [↓ wP,wQ,tf,Nat.reduceAdd,ne_eq,t14,d5]
  refine ⟨i+1,by show _-_<_-_;omega,_,n2,low2,o2,a2,rfl,by simp +decide only [↓ aB,aD,aC,t2],by simp +decide only [↓ aB,aD,aC,t12],by simp +decide only [↓ aB,aD,aC,t13],by simp +decide only [↓ aB,aD,aC],hlt,hl2,by rw [hrs,<-List.append_assoc];exact hw2,hfi.trans ⟨?_,?_,fun id q1 q2 q3=>?_⟩⟩
  ·have:=hf2.1;omega
  ·have:=hf2.2.1;omega
  ·rw [hf2.2.2 id (by omega) q2 q3,Tr.get_set_ne _ _ (by omega),Tr.get_set_ne _ _ (by omega)]
 ·have:i=m:=by omega
  subst this
  have d1:(((i:Nat):Int)<(i:Nat))=False:=eq_false (by omega)
  simp +contextual +decide (maxSteps:=1000000) only [↓ wP,wQ,tf,Nat.reduceAdd,ne_eq,t2,t12,t13,t14,d1,jI]
  exact ⟨a,hlow,hwi,hfi⟩
set_option maxHeartbeats 1000000 in
theorem WK {O:bP} (ho:∀ a σ,O 79 a σ=none) (ho':∀ a σ,O 76 a σ=none) (n0 low0:Nat) (o0:Tr AObj) (w a0:Nat) (bs:List Nat) (hw:WBo n0 o0 w a0 bs) (g:FuncId) (first:List AV)
 (av:AV) (xs:List AV) (ha:Sl av xs) (m:Nat) (hlen:xs.length=m) (c:Nat->List AV) (hix:∀ i,i<m->∀ {q:IntKind} {d:Option AV},eU (some 3) xs (.int q (i:Nat)) d=some (.pf (.agg (c i)))) (hcl:∀ i,i<m->(c i).length=3) (hcc:∀ i,i<m->(c i).all AV.isCell=true)
 (B:Nat->List Nat) (hb:(bs++bY m++(List.range m).flatMap B).length<=gT)
 (h:∀ i,i<m->∀ n low o a bs',WBo n o w a bs'->(bs'++B i).length<=gT->RetW Try.prog O (.func (.func g) first []) [.agg (c i)] n low o w a (bs'++B i)):
 RetW Try.prog O (.func (.func 76) [] []) [.ptr w 0 0,av,.func (.func g) first []] n0 low0 o0 w a0 (bs++bY m++(List.range m).flatMap B):=by
 have hw':=hw.1
 have hll:=ha.2
 refine RetW.run (first:=[]) (args:=[.ptr w 0 0,av,.func (.func g) first []]) (cap:=[]) aR (ho' _ _) (by kernel_rfl) Try.func76 Try.ntmps76 Try.results76 rfl rfl hw' ?_
 show Wk _ _ _ _ ⟨22,none,76,Tr.leaf.lay 0 [.ptr w 0 0,av,.func (.func g) first []],[],⟨n0,n0,o0⟩,.no⟩ _
 simp +contextual +decide (maxSteps:=1000000) only [↓ wP,wQ,tf,Nat.reduceAdd,ne_eq,ha.len,hlen,ho,aN]
 refine bL (ho _ _) ((iI ho n0 n0 o0 w a0 bs m (by omega) (by rw [List.length_append]at hb;rw [<-List.length_append];omega) hw).wcall fun n1 low1 o1 a1 hl1 hw1 hf1=>?_)
 rw [aH]
 show bW _ _ _ _ _ _ _ (.val' _ ⟨n1,low1,o1⟩)
 simp +contextual +decide (maxSteps:=1000000) only [↓ wP,wQ,tf,Nat.reduceAdd,ne_eq,ha.len,hlen]
 refine cB (fun i e=>∃ t n low o a,e=⟨22,none,76,t,[],⟨n,low,o⟩,.no⟩/\t.val 2=.func (.func g) first []/\t.val 12=av/\t.val 13=.int .i64 (m:Nat)/\t.val 14=.int .i64 (i:Nat)/\i<=m/\low<=w/\WBo n o w a (bs++bY m++(List.range i).flatMap B)/\FrW n0 o0 w a0 n o a) (fun i=>m-i) 0
  ⟨_,n1,low1,o1,a1,rfl,by simp +decide only [↓ aB,aD,aC],by simp +decide only [↓ aB,aD,aC],by simp +decide only [↓ aB,aD,aC],by simp +decide only [↓ aB,aD,aC];rfl,Nat.zero_le _,hl1,by simpa using hw1,hf1⟩ ?_
 rintro i _ ⟨t,n,low,o,a,rfl,t2,t12,t13,t14,hi,hlow,hwi,hfi⟩
 by_cases hlt:i<m
 ·have d1:((i:Int)<(m:Nat))=True:=eq_true (by omega)
  have d5:=bH (i:=i) (by omega)
  have x1:=fun {q d}=>hix i hlt (q:=q) (d:=d)
  have x2:=hcl i hlt
  have x3:=hcc i hlt
  have x4:=h i hlt
  have hz:0+3<=(c i).length:=by omega
  have hsl:aG (c i) 0 3=c i:=by unfold aG;rw [List.drop_zero,List.take_of_length_le (by omega)]
  have hrs:(List.range (i+1)).flatMap B=(List.range i).flatMap B++B i:=by rw [List.range_succ,List.flatMap_append];simp
  have hle:(bs++bY m++(List.range i).flatMap B++B i).length<=gT:=by
   have:((List.range (i+1)).flatMap B).length<=((List.range m).flatMap B).length:=by
    obtain ⟨k,rfl⟩:=Nat.exists_eq_add_of_le (show i+1<=m from hlt)
    rw [@List.range_add (i+1) k,List.flatMap_append,List.length_append];omega
   rw [hrs]at this
   simp only [List.length_append]at hb this ⊢;omega
  generalize c i=cs at *
  have f1:=bK hwi.1
  have f2:=bK hwi.2.1
  simp +contextual +decide (maxSteps:=1000000) only [↓ wP,wQ,tf,Nat.reduceAdd,ne_eq,ha.idx,t2,t12,t13,t14,d1,x1,cM,x2,x3,hz,hsl,bF]
  have hwi':WBo (n+1) ((o.set n (bE 0 [.int .i64 0,.nils,.nils])).set n (bE 0 cs)) w a (bs++bY m++(List.range i).flatMap B):=by
   obtain ⟨q1,q2,q3⟩:=hwi
   refine ⟨by omega,by omega,?_⟩
   rcases q3 with ⟨k1,k2,k3⟩ | ⟨k1,g',k2,k3,k4⟩
   ·exact .inl ⟨k1,by rw [Tr.get_set_ne _ _ (by omega),Tr.get_set_ne _ _ (by omega)];exact k2,k3⟩
   ·exact .inr ⟨k1,g',by rw [Tr.get_set_ne _ _ (by omega),Tr.get_set_ne _ _ (by omega)];exact k2,by rw [Tr.get_set_ne _ _ (by omega),Tr.get_set_ne _ _ (by omega)];exact k3,k4⟩
  refine TT ((x4 (n+1) _ _ a _ hwi' hle).wcall fun n2 low2 o2 a2 hl2 hw2 hf2=>?_)
  rw [aH]
  show bW _ _ _ _ _ _ _ (.val' _ ⟨n2,low2,o2⟩)
  simp +contextual +decide (maxSteps:=1000000) only [↓ wP,wQ,tf,Nat.reduceAdd,ne_eq,t14,d5]
  refine ⟨i+1,by show _-_<_-_;omega,_,n2,low2,o2,a2,rfl,by simp +decide only [↓ aB,aD,aC,t2],by simp +decide only [↓ aB,aD,aC,t12],by simp +decide only [↓ aB,aD,aC,t13],by simp +decide only [↓ aB,aD,aC],hlt,hl2,by rw [hrs,<-List.append_assoc];exact hw2,hfi.trans ⟨?_,?_,fun id q1 q2 q3=>?_⟩⟩
  ·have:=hf2.1;omega
  ·have:=hf2.2.1;omega
  ·rw [hf2.2.2 id (by omega) q2 q3,Tr.get_set_ne _ _ (by omega),Tr.get_set_ne _ _ (by omega)]
 ·have:i=m:=by omega
  subst this
  have d1:(((i:Nat):Int)<(i:Nat))=False:=eq_false (by omega)
  simp +contextual +decide (maxSteps:=1000000) only [↓ wP,wQ,tf,Nat.reduceAdd,ne_eq,t2,t12,t13,t14,d1,jI]
  exact ⟨a,hlow,hwi,hfi⟩
end
end Go.Proofs.Ytajngkkihadgfaa
/-
 The program of images: the bytes of an object.
-/
namespace Go.Proofs.Ytajngkkihadgfaa
open Go.Abs Go Go.Abs.TryF
noncomputable section
set_option maxRecDepth 10000
set_option maxHeartbeats 1000000 in
theorem WL {O:bP} (ho:∀ a σ,O 79 a σ=none) (ho':∀ a σ,O 73 a σ=none) (ho1:∀ a σ,O 75 a σ=none) (n0 low0:Nat) (o0:Tr AObj) (w a0:Nat) (bs:List Nat) (v:eA) (hv:dF v=true) (hb:(bs++sL v).length<=gT) (hw:WBo n0 o0 w a0 bs):
 RetW Try.prog O (.func (.func 75) [.ptr w 0 0] []) [fJ v] n0 low0 o0 w a0 (bs++sL v):=by
 obtain ⟨hwn,han,hcase⟩:=hw
 obtain ⟨q1,q2,q3⟩:=UB hv
 obtain ⟨k,m⟩:=v
 simp only at q1 q2 q3
 refine RetW.run (first:=[.ptr w 0 0]) (args:=[fJ (k,m)]) (cap:=[]) aR (ho1 _ _) (by kernel_rfl) Try.func75 Try.ntmps75 Try.results75 rfl rfl hwn ?_
 show Wk _ _ _ _ ⟨20,none,75,Tr.leaf.lay 0 [.ptr w 0 0,.agg [.int .i64 k,.int .i64 m]],[],⟨n0,n0,o0⟩,.no⟩ _
 have f1:=bK hwn
 have f2:=bK han
 have e3:=aBv (a:=k) (by omega)
 have hvb:sL (k,m)=(k.toNat%256)::kC m:=rfl
 rw [hvb]at hb ⊢
 simp only [List.length_append,List.length_cons,gT]at hb
 have hbs:bs++(k.toNat%256)::kC m=(bs++[k.toNat%256])++kC m:=by simp
 rw [hbs]
 have hsmall:2*(bs.length+1)+1024<=281474976710656/\bs.length+1<4611686018427387904:=⟨by omega,by omega⟩
 have hb2:((bs++[k.toNat%256])++kC m).length<=gT:=by simp only [List.length_append,List.length_cons,List.length_nil,gT];omega
 rcases hcase with ⟨rfl,hg,rfl⟩ | ⟨hne,g,hg,hga,haw⟩
 ·simp +contextual +decide (maxSteps:=1000000) only [↓ wP,wQ,tf,Nat.reduceAdd,ne_eq,hg,f1,e3,bF,Nat.reduceMul,Nat.mul_one,Nat.zero_mul,Nat.zero_add,ho',aN]
  refine bL (ho' _ _) ((jJ ho ho' (n0+1+1+1) _ _ a0 (n0+1+1) ([]++[k.toNat%256]) m q1 hb2 ⟨by omega,by omega,.inr ⟨by simp,0,?_,?_,by omega⟩⟩).wcall fun n1 low1 o1 a1 hl1 hw1 hf1=>?_)
  ·simp +contextual +decide (maxSteps:=1000000) only [↓ wP,wQ,tf,Nat.reduceAdd,ne_eq,f1,bF,List.nil_append,List.length_cons,List.length_nil]
  ·simp +contextual +decide (maxSteps:=1000000) only [↓ wP,wQ,tf,Nat.reduceAdd,ne_eq,f1,bF]
   rfl
  ·rw [aH]
   show bW _ _ _ _ _ _ _ (.val' _ ⟨n1,low1,o1⟩)
   simp +contextual +decide (maxSteps:=1000000) only [↓ wP,wQ,tf,Nat.reduceAdd,ne_eq,jI]
   refine ⟨a1,hl1,hw1,?_,?_,fun id p1 p2 p3=>?_⟩
   ·have:=hf1.1;omega
   ·have:=hf1.2.1;omega
   ·have f5:=bK p1
    rw [hf1.2.2 id (by omega) p2 (by omega)]
    simp +decide only [↓ aB,f5,p2,ne_eq]
 ·have f3:a0≠w/\w≠a0:=⟨haw,fun h=>haw h.symm⟩
  have hl1:(bs.map encB).length=bs.length:=List.length_map _
  simp +contextual +decide (maxSteps:=1000000) only [↓ wP,wQ,tf,Nat.reduceAdd,ne_eq,hg,hga,f1,f2,f3,e3,bF,hl1,hsmall,Nat.reduceMul,Nat.mul_one,Nat.zero_mul,Nat.zero_add,ho',aN]
  refine bL (ho' _ _) ((jJ ho ho' (n0+1+1) _ _ w a0 (bs++[k.toNat%256]) m q1 hb2 ⟨by omega,by omega,.inr ⟨by simp,g+1,?_,?_,haw⟩⟩).wcall fun n1 low1 o1 a1 hl1 hw1 hf1=>?_)
  ·simp +contextual +decide (maxSteps:=1000000) only [↓ wP,wQ,tf,Nat.reduceAdd,ne_eq,f1,bF,List.length_append,List.length_cons,List.length_nil]
  ·simp +contextual +decide (maxSteps:=1000000) only [↓ wP,wQ,tf,Nat.reduceAdd,ne_eq,f1,f2,f3,bF]
   rw [List.map_append];rfl
  ·rw [aH]
   show bW _ _ _ _ _ _ _ (.val' _ ⟨n1,low1,o1⟩)
   simp +contextual +decide (maxSteps:=1000000) only [↓ wP,wQ,tf,Nat.reduceAdd,ne_eq,jI]
   refine ⟨a1,hl1,hw1,?_,?_,fun id p1 p2 p3=>?_⟩
   ·have:=hf1.1;omega
   ·have:=hf1.2.1;omega
   ·have f5:=bK p1
    rw [hf1.2.2 id (by omega) p2 p3]
    simp +decide only [↓ aB,f5,p2,p3,ne_eq]
theorem TU (n:Int):By (kC n):=jE _
theorem cJ {a b:List Nat} (h:By a) (h':By b):By (a++b):=fun x hx=>(List.mem_append.1 hx).elim (h x) (h' x)
theorem qX {α:Type} {f:α->List Nat} {l:List α} (h:∀ x,By (f x)):By (l.flatMap f):=fun x hx=>by
 obtain ⟨y,_,hy⟩:=List.mem_flatMap.1 hx
 exact h y x hy
theorem TV {c:Nat} {l:List Nat} (hc:c<256) (h:By l):By (c::l):=fun x hx=>by
 rcases List.mem_cons.1 hx with rfl | hx
 ·exact hc
 ·exact h x hx
theorem aGo (v:eA):By (sL v):=TV (Nat.mod_lt _ (by omega)) (TU _)
theorem CT (l:List eA):By (jV l):=cJ (jE _) (qX aGo)
theorem aKy (f:Fr):By (AS f):=cJ (cJ (jE _) (CT _)) (CT _)
theorem aBo (o:Ob):By (fZ o):=TV (Nat.mod_lt _ (by omega)) (cJ (cJ (cJ (TU _) (CT _)) (jE _)) (qX aKy))
theorem nO {α:Type} [Inhabited α] (l:List α) (f:α->List Nat):(List.range l.length).flatMap (fun i=>f (l.getD i default))=l.flatMap f:=by
 have:∀ k,k<=l.length->(List.range k).flatMap (fun i=>f (l.getD i default))=(l.take k).flatMap f:=by
  intro k
  induction k with
  | zero=>intro _;rfl
  | succ k ih=>
    intro hk
    rw [List.range_succ,List.flatMap_append,ih (by omega),yV (d:=default) (by omega),List.flatMap_append];simp
 rw [this _ (Nat.le_refl _),List.take_length]
abbrev ON (O:bP):Prop:=(∀ a σ,O 79 a σ=none)/\(∀ a σ,O 73 a σ=none)/\(∀ a σ,O 75 a σ=none)/\(∀ a σ,O 74 a σ=none)/\(∀ a σ,O 77 a σ=none)/\(∀ a σ,O 76 a σ=none)/\(∀ a σ,O 41 a σ=none)
theorem wS {O:bP} (ho:ON O) (n0 low0:Nat) (o0:Tr AObj) (w a0:Nat) (bs:List Nat) (hw:WBo n0 o0 w a0 bs) (av:AV) (l:List eA) (ha:cE av=some l) (hok:eF l=true) (hb:(bs++jV l).length<=gT):
 RetW Try.prog O (.func (.func 74) [] []) [.ptr w 0 0,av,.func (.func 75) [.ptr w 0 0] []] n0 low0 o0 w a0 (bs++jV l):=by
 have hall:=(gE hok).2
 have e1:=nO l sL
 have:=WJ ho.1 ho.2.2.2.1 n0 low0 o0 w a0 bs hw 75 [.ptr w 0 0] av _ (hH ha) l.length (by simp) (fun i=>dW (l.getD i default)) (fun i hi {q d}=>aKw l hi) (fun _ _=>rfl) (fun _ _=>rfl) (fun i=>sL (l.getD i default)) (by rw [e1,List.append_assoc];exact hb)
  (fun i hi n low o a bs' hw' hb'=>WL ho.1 ho.2.1 ho.2.2.1 n low o w a bs' (l.getD i default) (hall _ (by rw [aT hi];exact List.getElem_mem _)) hb' hw')
 rw [e1,List.append_assoc]at this
 exact this
set_option maxHeartbeats 1000000 in
theorem WM {O:bP} (ho:ON O) (n0 low0:Nat) (o0:Tr AObj) (w a0:Nat) (bs:List Nat) (hw:WBo n0 o0 w a0 bs) (cs:List AV) (f:Fr) (hf:sM (.agg cs)=some f) (hok:nP f=true) (hb:(bs++AS f).length<=gT):
 RetW Try.prog O (.func (.func 77) [.ptr w 0 0] []) [.agg cs] n0 low0 o0 w a0 (bs++AS f):=by
 obtain ⟨e,v,he0,he,hv⟩:=nR hf
 cases he0
 obtain ⟨k1,k2,k3,k4⟩:=CX hok
 have ce:=cL he
 have cv:=cL hv
 have hwn:=hw.1
 obtain ⟨nd,hnd⟩:∃ m:Nat,f.node=(m:Int):=⟨f.node.toNat,by omega⟩
 have hfb:bs++AS f=bs++bY nd++jV f.env++jV f.vals:=by rw [AS,hnd];simp
 rw [hfb]at hb ⊢
 have hb1:(bs++bY nd++jV f.env).length<=gT:=by rw [List.length_append]at hb;omega
 have hb0:bs.length+(bY nd).length<=gT:=by rw [List.length_append,List.length_append]at hb1;omega
 refine RetW.run (first:=[.ptr w 0 0]) (args:=[.agg [.int .i64 f.node,e,v]]) (cap:=[]) aR (ho.2.2.2.2.1 _ _) (by kernel_rfl) Try.func77 Try.ntmps77 Try.results77 rfl rfl hwn ?_
 show Wk _ _ _ _ ⟨20,none,77,Tr.leaf.lay 0 [.ptr w 0 0,.agg [.int .i64 f.node,e,v]],[],⟨n0,n0,o0⟩,.no⟩ _
 rw [hnd]
 have f1:=bK hwn
 simp +contextual +decide (maxSteps:=1000000) only [↓ wP,wQ,tf,Nat.reduceAdd,ne_eq,ce,cv,f1,bF,ho.1,aN]
 have hw0:WBo (n0+1) (o0.set n0 (bE 0 [.int .i64 (nd:Nat),e,v])) w a0 bs:=by
  obtain ⟨q1,q2,q3⟩:=hw
  refine ⟨by omega,by omega,?_⟩
  rcases q3 with ⟨k1,k2,k3⟩ | ⟨k1,g',k2,k3,k4⟩
  ·exact .inl ⟨k1,by rw [Tr.get_set_ne _ _ (by omega)];exact k2,k3⟩
  ·exact .inr ⟨k1,g',by rw [Tr.get_set_ne _ _ (by omega)];exact k2,by rw [Tr.get_set_ne _ _ (by omega)];exact k3,k4⟩
 have han:=hw.2.1
 refine bL (ho.1 _ _) ((iI ho.1 (n0+1) _ _ w a0 bs nd (by omega) hb0 hw0).wcall fun n1 low1 o1 a1 hl1 hw1 hf1=>?_)
 rw [aH]
 show bW _ _ _ _ _ _ _ (.val' _ ⟨n1,low1,o1⟩)
 have g1:o1.get n0=some (bE 0 [.int .i64 (nd:Nat),e,v]):=by rw [hf1.2.2 n0 (by omega) (by omega) (by omega),Tr.get_set_same]
 have h1:=hf1.1
 have h2:=hf1.2.1
 have f2:=bK (show n0<n1 by omega)
 simp +contextual +decide (maxSteps:=1000000) only [↓ wP,wQ,tf,Nat.reduceAdd,ne_eq,g1,f2,ce,cv,ho.2.2.2.1,aN]
 refine bL (ho.2.2.2.1 _ _) ((wS ho n1 _ _ w a1 (bs++bY nd) hw1 e f.env he k3 hb1).wcall fun n2 low2 o2 a2 hl2 hw2 hf2=>?_)
 rw [aH]
 show bW _ _ _ _ _ _ _ (.val' _ ⟨n2,low2,o2⟩)
 have h3:=hf2.1
 have h4:=hf2.2.1
 have g2:o2.get n0=some (bE 0 [.int .i64 (nd:Nat),e,v]):=by rw [hf2.2.2 n0 (by omega) (by omega) (by omega)];exact g1
 have f3:=bK (show n0<n2 by omega)
 simp +contextual +decide (maxSteps:=1000000) only [↓ wP,wQ,tf,Nat.reduceAdd,ne_eq,g2,f3,ce,cv,ho.2.2.2.1,aN]
 refine bL (ho.2.2.2.1 _ _) ((wS ho n2 _ _ w a2 (bs++bY nd++jV f.env) hw2 v f.vals hv k4 hb).wcall fun n3 low3 o3 a3 hl3 hw3 hf3=>?_)
 rw [aH]
 show bW _ _ _ _ _ _ _ (.val' _ ⟨n3,low3,o3⟩)
 simp +contextual +decide (maxSteps:=1000000) only [↓ wP,wQ,tf,Nat.reduceAdd,ne_eq,jI]
 refine ⟨a3,hl3,hw3,?_,?_,fun id p1 p2 p3=>?_⟩
 ·have:=hf3.1;omega
 ·have:=hf3.2.1;omega
 ·rw [hf3.2.2 id (by omega) p2 (by omega),hf2.2.2 id (by omega) p2 (by omega),hf1.2.2 id (by omega) p2 p3,Tr.get_set_ne _ _ (by omega)]
theorem TW {O:bP} (ho:ON O) (n0 low0:Nat) (o0:Tr AObj) (w a0:Nat) (bs:List Nat) (hw:WBo n0 o0 w a0 bs) (av:AV) (l:List Fr) (ha:nQ av=some l) (hok:∀ f∈l,nP f=true) (hb:(bs++(bY l.length++l.flatMap AS)).length<=gT):
 RetW Try.prog O (.func (.func 76) [] []) [.ptr w 0 0,av,.func (.func 77) [.ptr w 0 0] []] n0 low0 o0 w a0 (bs++(bY l.length++l.flatMap AS)):=by
 obtain ⟨xs,c,h1,h2,h3⟩:=yS ha
 have e1:=nO l AS
 have:=WK ho.1 ho.2.2.2.2.2.1 n0 low0 o0 w a0 bs hw 77 [.ptr w 0 0] av xs h1 l.length h2 c (fun i hi {q d}=>(h3 i hi).1) (fun i hi=>(h3 i hi).2.1) (fun i hi=>(h3 i hi).2.2.1) (fun i=>AS (l.getD i default)) (by rw [e1,List.append_assoc];exact hb)
  (fun i hi n low o a bs' hw' hb'=>WM ho n low o w a bs' hw' (c i) (l.getD i default) (h3 i hi).2.2.2 (hok _ (by rw [aT hi];exact List.getElem_mem _)) hb')
 rw [e1,List.append_assoc]at this
 exact this
set_option maxHeartbeats 2000000 in
theorem CU {O:bP} (ho:ON O) (n0 low0:Nat) (o0:Tr AObj) (w a0:Nat) (bs:List Nat) (hw:WBo n0 o0 w a0 bs) (av:AV) (x:Ob) (hx:fG av=some x) (hok:gV x=true) (hb:(bs++fZ x).length<=gT):
 RetW Try.prog O (.func (.func 41) [] []) [.ptr w 0 0,av] n0 low0 o0 w a0 (bs++fZ x):=by
 obtain ⟨vs,fs,rfl,hvs,hfs⟩:=jL hx
 have cv:=cL hvs
 have cf:=iJ hfs
 obtain ⟨⟨k1,k2⟩,k3,k4,k5,k6⟩:=qA hok
 obtain ⟨hwn,han,hcase⟩:=hw
 have hobB:bs++fZ x=bs++[x.form.toNat%256]++kC x.n++jV x.vals++(bY x.frs.length++x.frs.flatMap AS):=by simp [fZ]
 rw [hobB]at hb ⊢
 have hb3:(bs++[x.form.toNat%256]++kC x.n++jV x.vals).length<=gT:=by rw [List.length_append]at hb;omega
 have hb2:(bs++[x.form.toNat%256]++kC x.n).length<=gT:=by rw [List.length_append]at hb3;omega
 have hb1:bs.length+1<=1099511627776:=by simp only [List.length_append,List.length_cons,List.length_nil,gT]at hb2;omega
 refine RetW.run (first:=[]) (args:=[.ptr w 0 0,.agg [.int .i64 x.form,.int .i64 x.n,vs,fs]]) (cap:=[]) aR (ho.2.2.2.2.2.2 _ _) (by kernel_rfl) Try.func41 Try.ntmps41 Try.results41 rfl rfl hwn ?_
 show Wk _ _ _ _ ⟨32,none,41,Tr.leaf.lay 0 [.ptr w 0 0,.agg [.int .i64 x.form,.int .i64 x.n,vs,fs]],[],⟨n0,n0,o0⟩,.no⟩ _
 have f1:=bK hwn
 have f2:=bK han
 have e3:=aBv (a:=x.form) (by omega)
 have hsmall:2*(bs.length+1)+1024<=281474976710656/\bs.length+1<4611686018427387904:=⟨by omega,by omega⟩
 rcases hcase with ⟨rfl,hg,rfl⟩ | ⟨hne,g,hg,hga,haw⟩
 ·simp +contextual +decide (maxSteps:=1000000) only [↓ wP,wQ,tf,Nat.reduceAdd,ne_eq,hg,f1,e3,bF,cv,cf,Nat.reduceMul,Nat.mul_one,Nat.zero_mul,Nat.zero_add,ho.2.1,aN]
  refine bL (ho.2.1 _ _) ((jJ ho.1 ho.2.1 (n0+1+1+1) _ _ a0 (n0+1+1) ([]++[x.form.toNat%256]) x.n k3 hb2 ⟨by omega,by omega,.inr ⟨by simp,0,?_,?_,by omega⟩⟩).wcall fun n1 low1 o1 a1 hl1 hw1 hf1=>?_)
  ·simp +contextual +decide (maxSteps:=1000000) only [↓ wP,wQ,tf,Nat.reduceAdd,ne_eq,f1,bF,List.nil_append,List.length_cons,List.length_nil]
  ·simp +contextual +decide (maxSteps:=1000000) only [↓ wP,wQ,tf,Nat.reduceAdd,ne_eq,f1,bF]
   rfl
  ·rw [aH]
   show bW _ _ _ _ _ _ _ (.val' _ ⟨n1,low1,o1⟩)
   have h1:=hf1.1
   have h2:=hf1.2.1
   have g1:o1.get n0=some (bE 0 [.int .i64 x.form,.int .i64 x.n,vs,fs]):=by
    rw [hf1.2.2 n0 (by omega) (by omega) (by omega)]
    simp +contextual +decide (maxSteps:=1000000) only [↓ wP,wQ,tf,Nat.reduceAdd,ne_eq,f1,f2,bF]
   have f4:=bK (show n0<n1 by omega)
   simp +contextual +decide (maxSteps:=1000000) only [↓ wP,wQ,tf,Nat.reduceAdd,ne_eq,g1,f4,cv,cf,ho.2.2.2.1,aN]
   refine bL (ho.2.2.2.1 _ _) ((wS ho n1 _ _ a0 a1 _ hw1 vs x.vals hvs k4 hb3).wcall fun n2 low2 o2 a2 hl2 hw2 hf2=>?_)
   rw [aH]
   show bW _ _ _ _ _ _ _ (.val' _ ⟨n2,low2,o2⟩)
   have h3:=hf2.1
   have h4:=hf2.2.1
   have g2:o2.get n0=some (bE 0 [.int .i64 x.form,.int .i64 x.n,vs,fs]):=by rw [hf2.2.2 n0 (by omega) (by omega) (by omega)];exact g1
   have f5:=bK (show n0<n2 by omega)
   simp +contextual +decide (maxSteps:=1000000) only [↓ wP,wQ,tf,Nat.reduceAdd,ne_eq,g2,f5,cv,cf,ho.2.2.2.2.2.1,aN]
   refine bL (ho.2.2.2.2.2.1 _ _) ((TW ho n2 _ _ a0 a2 _ hw2 fs x.frs hfs k6 hb).wcall fun n3 low3 o3 a3 hl3 hw3 hf3=>?_)
   rw [aH]
   show bW _ _ _ _ _ _ _ (.val' _ ⟨n3,low3,o3⟩)
   simp +contextual +decide (maxSteps:=1000000) only [↓ wP,wQ,tf,Nat.reduceAdd,ne_eq,jI]
   refine ⟨a3,hl3,hw3,?_,?_,fun id p1 p2 p3=>?_⟩
   ·have:=hf3.1;omega
   ·have:=hf3.2.1;omega
   ·have f6:=bK p1
    rw [hf3.2.2 id (by omega) p2 (by omega),hf2.2.2 id (by omega) p2 (by omega),hf1.2.2 id (by omega) p2 (by omega)]
    simp +decide only [↓ aB,f6,p2,p3,ne_eq]
 ·have f3:a0≠w/\w≠a0:=⟨haw,fun h=>haw h.symm⟩
  have hl1:(bs.map encB).length=bs.length:=List.length_map _
  simp +contextual +decide (maxSteps:=1000000) only [↓ wP,wQ,tf,Nat.reduceAdd,ne_eq,hg,hga,f1,f2,f3,e3,bF,cv,cf,hl1,hsmall,Nat.reduceMul,Nat.mul_one,Nat.zero_mul,Nat.zero_add,ho.2.1,aN]
  refine bL (ho.2.1 _ _) ((jJ ho.1 ho.2.1 (n0+1+1) _ _ w (a0) (bs++[x.form.toNat%256]) x.n k3 hb2 ⟨by omega,by omega,.inr ⟨by simp,g+1,?_,?_,haw⟩⟩).wcall fun n1 low1 o1 a1 hl1 hw1 hf1=>?_)
  ·simp +contextual +decide (maxSteps:=1000000) only [↓ wP,wQ,tf,Nat.reduceAdd,ne_eq,f1,bF,List.length_append,List.length_cons,List.length_nil]
  ·simp +contextual +decide (maxSteps:=1000000) only [↓ wP,wQ,tf,Nat.reduceAdd,ne_eq,f1,f2,f3,bF]
   rw [List.map_append];rfl
  ·rw [aH]
   show bW _ _ _ _ _ _ _ (.val' _ ⟨n1,low1,o1⟩)
   have h1:=hf1.1
   have h2:=hf1.2.1
   have g1:o1.get n0=some (bE 0 [.int .i64 x.form,.int .i64 x.n,vs,fs]):=by
    rw [hf1.2.2 n0 (by omega) (by omega) (by omega)]
    simp +contextual +decide (maxSteps:=1000000) only [↓ wP,wQ,tf,Nat.reduceAdd,ne_eq,f1,f2,bF]
   have f4:=bK (show n0<n1 by omega)
   simp +contextual +decide (maxSteps:=1000000) only [↓ wP,wQ,tf,Nat.reduceAdd,ne_eq,g1,f4,cv,cf,ho.2.2.2.1,aN]
   refine bL (ho.2.2.2.1 _ _) ((wS ho n1 _ _ w a1 _ hw1 vs x.vals hvs k4 hb3).wcall fun n2 low2 o2 a2 hl2 hw2 hf2=>?_)
   rw [aH]
   show bW _ _ _ _ _ _ _ (.val' _ ⟨n2,low2,o2⟩)
   have h3:=hf2.1
   have h4:=hf2.2.1
   have g2:o2.get n0=some (bE 0 [.int .i64 x.form,.int .i64 x.n,vs,fs]):=by rw [hf2.2.2 n0 (by omega) (by omega) (by omega)];exact g1
   have f5:=bK (show n0<n2 by omega)
   simp +contextual +decide (maxSteps:=1000000) only [↓ wP,wQ,tf,Nat.reduceAdd,ne_eq,g2,f5,cv,cf,ho.2.2.2.2.2.1,aN]
   refine bL (ho.2.2.2.2.2.1 _ _) ((TW ho n2 _ _ w a2 _ hw2 fs x.frs hfs k6 hb).wcall fun n3 low3 o3 a3 hl3 hw3 hf3=>?_)
   rw [aH]
   show bW _ _ _ _ _ _ _ (.val' _ ⟨n3,low3,o3⟩)
   simp +contextual +decide (maxSteps:=1000000) only [↓ wP,wQ,tf,Nat.reduceAdd,ne_eq,jI]
   refine ⟨a3,hl3,hw3,?_,?_,fun id p1 p2 p3=>?_⟩
   ·have:=hf3.1;omega
   ·have:=hf3.2.1;omega
   ·have f6:=bK p1
    rw [hf3.2.2 id (by omega) p2 (by omega),hf2.2.2 id (by omega) p2 (by omega),hf1.2.2 id (by omega) p2 (by omega)]
    simp +decide only [↓ aB,f6,p2,p3,ne_eq]
theorem objectV_ok:Abs.Ok Try.prog 19 wW:=by
 intro args v hg
 match args,hg with
 | [a],hg=>
   obtain ⟨o,ho,rfl⟩:=Option.map_eq_some_iff.1 hg
   have hua:=(wY ho).und
   have e1:=wV ho
   have ho0:=ho
   obtain ⟨vs,fs,rfl,hvs,hfs⟩:=jL ho
   have c1:=cL hvs
   have c2:=iJ hfs
   refine bQ (L:=[ent 44 nF]) (elist_cons formed_ok.ent bC) aR (by kernel_rfl) Try.func19 Try.ntmps19 Try.results19 rfl rfl (aF hua aO) (by split<;>exact vD) ?_
   cases h:gV o with
   | false=>
     simp +contextual +decide (maxSteps:=1000000) only [↓ wP,wQ,tf,Nat.reduceAdd,ne_eq,c1,c2,e1,h]
     rfl
   | true=>
     have hON:ON (orcL [ent 44 nF]):=⟨fun _ _=>rfl,fun _ _=>rfl,fun _ _=>rfl,fun _ _=>rfl,fun _ _=>rfl,fun _ _=>rfl,fun _ _=>rfl⟩
     simp +contextual +decide (maxSteps:=1000000) only [↓ wP,wQ,tf,Nat.reduceAdd,ne_eq,c1,c2,e1,h,hON.2.2.2.2.2.2,aN]
     obtain ⟨⟨k1,k2⟩,k3,k4,k5,k6⟩:=qA h
     have hlen:(fZ o).length<=20000:=by
      have l1:=qB k3
      have l2:=xA k4
      have l3:=hG 1 o.frs.length (by omega) (by omega)
      have l4:(o.frs.flatMap AS).length<=40*375:=Nat.le_trans (gA (k:=375) _ fun x hx=>aBr (k6 x hx)) (by omega)
      simp only [fZ,List.length_cons,List.length_append];omega
     refine bL (hON.2.2.2.2.2.2 _ _) ((CU hON 2 0 _ 1 1 [] ⟨by omega,by omega,.inl ⟨rfl,?_,rfl⟩⟩ _ o ho0 h (by rw [List.nil_append];unfold gT;omega)).wcall fun n1 low1 o1 a1 hl1 hw1 hf1=>?_)
     ·simp +contextual +decide (maxSteps:=1000000) only [↓ wP,wQ,tf,Nat.reduceAdd,ne_eq]
     ·rw [aH]
      show bW _ _ _ _ _ _ _ (.val' _ ⟨n1,low1,o1⟩)
      obtain ⟨q1,q2,q3⟩:=hw1
      rw [List.nil_append]at q3
      have hne:fZ o≠[]:=by simp [fZ]
      rcases q3 with ⟨k,_⟩ | ⟨_,g,q4,q5,q6⟩
      ·exact absurd k hne
      ·have f1:=bK q1
       have f2:=bK q2
       have hby:By (fZ o):=aBo o
       have hcv:∀ {d:Option ORes},cvO (some (bE g ((fZ o).map encB))) g (fZ o).length d=some (.val (.str (fZ o))):=fun {d}=>IO rfl hby
       simp +contextual +decide (maxSteps:=1000000) only [↓ wP,wQ,tf,Nat.reduceAdd,ne_eq,f1,f2,q4,q5,gB,hcv]
       rfl
end
end Go.Proofs.Ytajngkkihadgfaa
