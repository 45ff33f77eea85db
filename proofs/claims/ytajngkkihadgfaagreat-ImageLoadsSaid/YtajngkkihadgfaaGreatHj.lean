/-
  The program of images: what can be stored.
-/
import Derived.Test.YtajngkkihadgfaaGreatHg
import Derived.Test.YtajngkkihadgfaaGreatEp
set_option linter.unusedVariables false
set_option linter.unusedSimpArgs false
namespace Go.Proofs.YtajngkkihadgfaaGreat
open Go.Abs Go Go.Abs.TryzF
noncomputable section
set_option maxRecDepth 10000
theorem iIn_ok:Abs.Ok Tryz.prog 77 RA:=by
 intro args v hg
 unfold RA at hg
 split at hg<;>cases hg
 rename_i n l h
 refine aR (L:=[]) aH aL (by kernel_rfl) Tryz.func77 Tryz.ntmps77 Tryz.results77 rfl rfl (aC aO (aC aO (aC aO aE))) cA ?_
 by_cases h1:l<=n
 ·simp +contextual +decide (maxSteps:=1000000) only [↓ wP,wQ,ne_eq,h1]
  simp [jE,h1]
 ·simp +contextual +decide (maxSteps:=1000000) only [↓ wP,wQ,ne_eq,h1]
  simp [jE,h1]
def oP:List AV->Option AV
 | [.int .i64 n]=>some (.bool (dF n))
 | _=>none
theorem iNumber_ok:Abs.Ok Tryz.prog 78 oP:=by
 intro args v hg
 unfold oP at hg
 split at hg<;>cases hg
 rename_i n
 refine aR (L:=[ent 77 RA]) (elist_cons iIn_ok.ent aH) aL (by kernel_rfl) Tryz.func78 Tryz.ntmps78 Tryz.results78 rfl rfl (aC aO aE) cA ?_
 simp +contextual +decide (maxSteps:=1000000) only [↓ wP,wQ,ne_eq,bW]
 rfl
theorem lH {n:Int}:oP [.int .i64 n]=some (.bool (dF n)):=rfl
set_option maxHeartbeats 1000000 in
theorem iValued_ok:Abs.Ok Tryz.prog 80 xJ:=by
 intro args v hg
 match args,hg with
 | [a],hg=>
   obtain ⟨⟨k,n⟩,hl,rfl⟩:=Option.map_eq_some_iff.1 hg
   cases tY hl
   refine aR (L:=[ent 77 RA,ent 78 oP]) (elist_cons iIn_ok.ent (elist_cons iNumber_ok.ent aH)) aL (by kernel_rfl) Tryz.func80 Tryz.ntmps80 Tryz.results80 rfl rfl (aC VZ aE) cA ?_
   by_cases h1:k=1
   ·subst h1;simp +contextual +decide (maxSteps:=1000000) only [↓ wP,wQ,tf,Nat.reduceAdd,ne_eq,eH,lH]
    rfl
   by_cases h2:k=2
   ·subst h2;simp +contextual +decide (maxSteps:=1000000) only [↓ wP,wQ,tf,Nat.reduceAdd,ne_eq,eH,bW]
    rfl
   by_cases h3:k=3
   ·subst h3;simp +contextual +decide (maxSteps:=1000000) only [↓ wP,wQ,tf,Nat.reduceAdd,ne_eq,eH]
    rfl
   by_cases h4:k=4
   ·subst h4;simp +contextual +decide (maxSteps:=1000000) only [↓ wP,wQ,tf,Nat.reduceAdd,ne_eq,eH,bW]
    rfl
   by_cases h5:k=5
   ·subst h5;simp +contextual +decide (maxSteps:=1000000) only [↓ wP,wQ,tf,Nat.reduceAdd,ne_eq,eH,bW]
    rfl
   simp +contextual +decide (maxSteps:=1000000) only [↓ wP,wQ,tf,Nat.reduceAdd,ne_eq,eH,h1,h2,h3,h4,h5]
   simp [jC,h1,h2,h3,h4,h5]
theorem bC {n low n' low':Nat} {o o':Tr AObj} (h:n<=n') (h':∀ id,id<n->o'.get id=o.get id):Sim ⟨n,low,o⟩ ⟨n',low',o'⟩:=⟨h,fun id hid=>by
 have hid':id<n:=hid
 rw [Sto.get_mk hid',Sto.get_mk (by omega)];exact h' id hid'⟩
theorem dA {n low:Nat} {o:Tr AObj} {S:Sto} (h:Sim ⟨n,low,o⟩ S):∃ n' low' o',S=⟨n',low',o'⟩/\n<=n'/\∀ id,id<n->o'.get id=o.get id:=by
 obtain ⟨n',low',o'⟩:=S
 refine ⟨n',low',o',rfl,h.1,fun id hid=>?_⟩
 have:=h.2 id hid
 have hn:n<=n':=h.1
 rwa [Sto.get_mk hid,Sto.get_mk (by omega)]at this
theorem SO {O:bX} (ho:∀ a σ,O 140 a σ=none) (g:FuncId) (cap:List AV) (a:AV) (xs:List AV) (ha:Sl a xs) (m:Nat) (hlen:xs.length=m) (c:Nat->List AV) (hix:∀ i,i<m->∀ {q:IntKind} {d:Option AV},fK (some 2) xs (.int q (i:Nat)) d=some (.pf (.agg (c i)))) (hcl:∀ i,i<m->(c i).length=2) (p:Nat->Bool) (s:Sto)
 (h:∀ i,i<m->∀ s',Sim s s'->RetS Tryz.prog O (.func (.func g) [] cap) [.agg (c i)] s' (.bool (p i))):RetS Tryz.prog O (.func (.func 140) [] []) [a,.func (.func g) [] cap] s (.int .i64 (match (List.range m).findIdx? p with | some i=>((i:Nat):Int) | none=>-1)):=by
 have hll:=ha.2
 refine RetS.run (first:=[]) (args:=[a,.func (.func g) [] cap]) (cap:=[]) aL (ho _ _) (by kernel_rfl) Tryz.func140 Tryz.ntmps140 Tryz.results140 rfl rfl ?_
 obtain ⟨n0,low0,o0⟩:=s
 show Wk _ _ _ _ ⟨19,none,140,Tr.leaf.lay 0 [a,.func (.func g) [] cap],[],⟨n0,n0,o0⟩,.no⟩ _
 simp +contextual +decide (maxSteps:=1000000) only [↓ wP,wQ,tf,ne_eq,ha.len,hlen]
 refine bE (fun i e=>∃ t n low o,e=⟨19,none,140,t,[],⟨n,low,o⟩,.no⟩/\t.val 0=a/\t.val 1=.func (.func g) [] cap/\t.val 7=.int .i64 (m:Nat)/\t.val 8=.int .i64 (i:Nat)/\i<=m/\(∀ j,j<i->p j=false)/\n0<=n/\∀ id,id<n0->o.get id=o0.get id) (fun i=>m-i) 0
  ⟨_,n0,n0,o0,rfl,by simp +decide only [↓ aB,dJ,cL],by simp +decide only [↓ aB,dJ,cL],by simp +decide only [↓ aB],by simp +decide only [↓ aB];rfl,Nat.zero_le _,fun j hj=>by omega,Nat.le_refl _,fun _ _=>rfl⟩ ?_
 rintro i _ ⟨t,n,low,o,rfl,t0,t1,t7,t8,hi,hpre,hn,hoth⟩
 by_cases hlt:i<m
 ·have d1:((i:Int)<(m:Nat))=True:=eq_true (by omega)
  have d5:=aJ (i:=i) (by omega)
  have x1:=fun {q d}=>hix i hlt (q:=q) (d:=d)
  have x2:=hcl i hlt
  have x3:=h i hlt
  generalize c i=cs at *
  simp +contextual +decide (maxSteps:=1000000) only [↓ wP,wQ,tf,ne_eq,ha.idx,t0,t1,t7,t8,d1,x1,x2]
  refine cZ.1 ((x3 ⟨n,low,o⟩ (bC (low:=low0) hn hoth)).wcall fun so hso=>?_)
  rw [aI]
  obtain ⟨n',low',o',e1,h1,h2⟩:=dA hso
  rw [e1]
  cases hp:p i with
  | true=>
    have hf:(List.range m).findIdx? p=some i:=by
     rw [List.findIdx?_eq_some_iff_getElem]
     refine ⟨by simpa using hlt,by simpa using hp,fun j hj=>?_⟩
     have:=hpre j hj
     simpa using this
    simp +contextual +decide (maxSteps:=1000000) only [↓ wP,wQ,ne_eq,aZ,hf]
    exact bC (by omega) (fun id hid=>by rw [h2 id (by omega)];exact hoth id hid)
  | false=>
    simp +contextual +decide (maxSteps:=1000000) only [↓ wP,wQ,ne_eq,t8,d5]
    exact ⟨i+1,by show _-_<_-_;omega,_,n',low',o',rfl,by simp +decide only [↓ aB,t0],by simp +decide only [↓ aB,t1],by simp +decide only [↓ aB,t7],by simp +decide only [↓ aB],hlt,fun j hj=>by
     rcases Nat.lt_succ_iff_lt_or_eq.1 hj with hj | rfl
     ·exact hpre j hj
     ·exact hp,by omega,fun id hid=>by rw [h2 id (by omega)];exact hoth id hid⟩
 ·have:i=m:=by omega
  subst this
  have d1:(((i:Nat):Int)<(i:Nat))=False:=eq_false (by omega)
  have hf:(List.range i).findIdx? p=none:=by
   rw [List.findIdx?_eq_none_iff]
   intro x hx
   exact hpre x (List.mem_range.1 hx)
  simp +contextual +decide (maxSteps:=1000000) only [↓ wP,wQ,t7,t8,d1,aZ,hf]
  exact bC hn hoth
theorem HM {O:bX} (ho:∀ a σ,O 140 a σ=none) (ho':∀ a σ,O 126 a σ=none) (g:FuncId) (cap:List AV) (a:AV) (xs:List AV) (ha:Sl a xs) (m:Nat) (hlen:xs.length=m) (c:Nat->List AV) (hix:∀ i,i<m->∀ {q:IntKind} {d:Option AV},fK (some 2) xs (.int q (i:Nat)) d=some (.pf (.agg (c i)))) (hcl:∀ i,i<m->(c i).length=2) (p:Nat->Bool) (s:Sto)
 (h:∀ i,i<m->∀ s',Sim s s'->RetS Tryz.prog O (.func (.func g) [] cap) [.agg (c i)] s' (.bool (p i))):RetS Tryz.prog O (.func (.func 126) [] []) [a,.func (.func g) [] cap] s (.bool ((List.range m).any p)):=by
 have hx:=fun s' hs=>SO ho g cap a xs ha m hlen c hix hcl p s' fun x hx s'' hs'=>h x hx s'' (Sim.trans (b:=s') hs hs')
 refine RetS.run (first:=[]) (args:=[a,.func (.func g) [] cap]) (cap:=[]) aL (ho' _ _) (by kernel_rfl) Tryz.func126 Tryz.ntmps126 Tryz.results126 rfl rfl ?_
 obtain ⟨n0,low0,o0⟩:=s
 show Wk _ _ _ _ ⟨9,none,126,Tr.leaf.lay 0 [a,.func (.func g) [] cap],[],⟨n0,n0,o0⟩,.no⟩ _
 simp +contextual +decide (maxSteps:=1000000) only [↓ wP,wQ,ne_eq,ho,aP]
 refine bQ (ho _ _) ((hx ⟨n0,n0,o0⟩ (bC (Nat.le_refl _) fun _ _=>rfl)).wcall fun so hso=>?_)
 rw [aI]
 obtain ⟨n',low',o',e1,h1,h2⟩:=dA hso
 rw [e1]
 cases hf:(List.range m).findIdx? p with
 | none=>
   have hany:(List.range m).any p=false:=by
    rw [List.any_eq_false];intro x hx;have:=List.findIdx?_eq_none_iff.1 hf x hx;simp [this]
   simp +contextual +decide (maxSteps:=1000000) only [↓ wP,wQ,aZ,hany]
   exact bC h1 h2
 | some i=>
   have hany:(List.range m).any p=true:=by
    obtain ⟨h3,h4,_⟩:=List.findIdx?_eq_some_iff_getElem.1 hf
    rw [List.any_eq_true];exact ⟨_,List.getElem_mem h3,h4⟩
   simp +contextual +decide (maxSteps:=1000000) only [↓ wP,wQ,aZ,hany,show ((0:Int)<=(i:Nat))=True from eq_true (by omega)]
   exact bC h1 h2
theorem OO {O:bX} (ho1:∀ a σ,O 127 a σ=none) (g:FuncId) (cap:List AV) (cs:List AV) (hcs:cs.length=2) (hcc:cs.all AV.isCell=true) (b:Bool) (c:Nat) (s:Sto) (hc:s.get c=some (aU 0 [.func (.func g) [] cap]))
 (h:∀ s',Sim s s'->RetS Tryz.prog O (.func (.func g) [] cap) [.agg cs] s' (.bool b)):RetS Tryz.prog O (.func (.func 127) [] [.ptr c 0 0]) [.agg cs] s (.bool !b):=by
 refine RetS.run (first:=[]) (args:=[.agg cs]) (cap:=[.ptr c 0 0]) aL (ho1 _ _) (by kernel_rfl) Tryz.func127 Tryz.ntmps127 Tryz.results127 rfl rfl ?_
 obtain ⟨n0,low0,o0⟩:=s
 have hcn:c<n0:=Sto.get_lt hc
 rw [Sto.get_mk hcn]at hc
 have f0:=bA hcn
 have hz:0+2<=cs.length:=by omega
 show Wk _ _ _ _ ⟨8,none,127,Tr.leaf.lay 0 [.agg cs,.ptr c 0 0],[],⟨n0,n0,o0⟩,.no⟩ _
 simp +contextual +decide (maxSteps:=1000000) only [↓ wP,wQ,tf,Nat.reduceAdd,ne_eq,hc,hcc,hcs,f0,cS,show aG cs 0 2=cs from by unfold aG;rw [List.drop_zero,List.take_of_length_le (by omega)]]
 refine cZ.1 ((h _ (bC (by omega) fun id hid=>by rw [Tr.get_set_ne _ _ (by omega)])).wcall fun so hso=>?_)
 rw [aI]
 obtain ⟨n',low',o',e1,h1,h2⟩:=dA hso
 rw [e1]
 simp +contextual +decide (maxSteps:=1000000) only [↓ wP,wQ,aZ]
 exact bC (by omega) (fun id hid=>by rw [h2 id (by omega),Tr.get_set_ne _ _ (by omega)])
theorem SP {O:bX} (ho:∀ a σ,O 140 a σ=none) (ho':∀ a σ,O 126 a σ=none) (ho1:∀ a σ,O 127 a σ=none) (ho2:∀ a σ,O 79 a σ=none)
 (g:FuncId) (cap:List AV) (a:AV) (xs:List AV) (ha:Sl a xs) (m:Nat) (hlen:xs.length=m) (c:Nat->List AV) (hix:∀ i,i<m->∀ {q:IntKind} {d:Option AV},fK (some 2) xs (.int q (i:Nat)) d=some (.pf (.agg (c i)))) (hcl:∀ i,i<m->(c i).length=2) (hcc:∀ i,i<m->(c i).all AV.isCell=true) (p:Nat->Bool) (most:Nat) (s:Sto)
 (h:∀ i,i<m->∀ s',Sim s s'->RetS Tryz.prog O (.func (.func g) [] cap) [.agg (c i)] s' (.bool (p i))):RetS Tryz.prog O (.func (.func 79) [] []) [a,.int .i64 (most:Nat),.func (.func g) [] cap] s (.bool (decide (m<=most)&&(List.range m).all p)):=by
 refine RetS.run (first:=[]) (args:=[a,.int .i64 (most:Nat),.func (.func g) [] cap]) (cap:=[]) aL (ho2 _ _) (by kernel_rfl) Tryz.func79 Tryz.ntmps79 Tryz.results79 rfl rfl ?_
 obtain ⟨n0,low0,o0⟩:=s
 show Wk _ _ _ _ ⟨17,none,79,Tr.leaf.lay 0 [a,.int .i64 (most:Nat),.func (.func g) [] cap],[],⟨n0,n0,o0⟩,.no⟩ _
 have d1:(((m:Nat):Int)<=(most:Nat))=(m<=most):=propext (by omega)
 by_cases hl:m<=most
 ·simp +contextual +decide (maxSteps:=1000000) only [↓ wP,wQ,tf,ne_eq,ha.len,hlen,d1,hl,ho',aP]
  refine bQ (ho' _ _) ((HM ho ho' 127 [.ptr n0 0 0] a xs ha m hlen c hix hcl (fun i=>!p i) ⟨n0+1,n0,o0.set n0 (aU 0 [.func (.func g) [] cap])⟩ fun i hi s' hs=>?_).wcall fun so hso=>?_)
  ·refine OO ho1 g cap (c i) (hcl i hi) (hcc i hi) (p i) n0 s' (hs.get ?_) fun s'' hs'=>h i hi s'' ?_
   ·rw [Sto.get_mk (by omega),Tr.get_set_same]
   ·exact (bC (by omega) fun id hid=>by rw [Tr.get_set_ne _ _ (by omega)]:Sim ⟨n0,low0,o0⟩ ⟨n0+1,n0,o0.set n0 (aU 0 [.func (.func g) [] cap])⟩).trans (hs.trans hs')
  ·rw [aI]
   obtain ⟨n',low',o',e1,h1,h2⟩:=dA hso
   rw [e1]
   have hany:((List.range m).any fun x=>!p x) = !(List.range m).all p:=by rw [<-List.not_all_eq_any_not]
   rw [hany]
   simp +contextual +decide (maxSteps:=1000000) only [↓ wP,wQ,ne_eq,aZ,Bool.not_not]
   exact bC (by omega) (fun id hid=>by rw [h2 id (by omega),Tr.get_set_ne _ _ (by omega)])
 ·simp +contextual +decide (maxSteps:=1000000) only [↓ wP,wQ,tf,ne_eq,ha.len,hlen,d1,hl,aZ]
  exact ⟨by simp,bC (by omega) (fun id hid=>by rw [Tr.get_set_ne _ _ (by omega)])⟩
theorem SQ {O:bX} (ho:∀ a σ,O 141 a σ=none) (g:FuncId) (cap:List AV) (a:AV) (xs:List AV) (ha:Sl a xs) (m:Nat) (hlen:xs.length=m) (c:Nat->List AV) (hix:∀ i,i<m->∀ {q:IntKind} {d:Option AV},fK (some 3) xs (.int q (i:Nat)) d=some (.pf (.agg (c i)))) (hcl:∀ i,i<m->(c i).length=3) (p:Nat->Bool) (s:Sto)
 (h:∀ i,i<m->∀ s',Sim s s'->RetS Tryz.prog O (.func (.func g) [] cap) [.agg (c i)] s' (.bool (p i))):RetS Tryz.prog O (.func (.func 141) [] []) [a,.func (.func g) [] cap] s (.int .i64 (match (List.range m).findIdx? p with | some i=>((i:Nat):Int) | none=>-1)):=by
 have hll:=ha.2
 refine RetS.run (first:=[]) (args:=[a,.func (.func g) [] cap]) (cap:=[]) aL (ho _ _) (by kernel_rfl) Tryz.func141 Tryz.ntmps141 Tryz.results141 rfl rfl ?_
 obtain ⟨n0,low0,o0⟩:=s
 show Wk _ _ _ _ ⟨19,none,141,Tr.leaf.lay 0 [a,.func (.func g) [] cap],[],⟨n0,n0,o0⟩,.no⟩ _
 simp +contextual +decide (maxSteps:=1000000) only [↓ wP,wQ,tf,ne_eq,ha.len,hlen]
 refine bE (fun i e=>∃ t n low o,e=⟨19,none,141,t,[],⟨n,low,o⟩,.no⟩/\t.val 0=a/\t.val 1=.func (.func g) [] cap/\t.val 7=.int .i64 (m:Nat)/\t.val 8=.int .i64 (i:Nat)/\i<=m/\(∀ j,j<i->p j=false)/\n0<=n/\∀ id,id<n0->o.get id=o0.get id) (fun i=>m-i) 0
  ⟨_,n0,n0,o0,rfl,by simp +decide only [↓ aB,dJ,cL],by simp +decide only [↓ aB,dJ,cL],by simp +decide only [↓ aB],by simp +decide only [↓ aB];rfl,Nat.zero_le _,fun j hj=>by omega,Nat.le_refl _,fun _ _=>rfl⟩ ?_
 rintro i _ ⟨t,n,low,o,rfl,t0,t1,t7,t8,hi,hpre,hn,hoth⟩
 by_cases hlt:i<m
 ·have d1:((i:Int)<(m:Nat))=True:=eq_true (by omega)
  have d5:=aJ (i:=i) (by omega)
  have x1:=fun {q d}=>hix i hlt (q:=q) (d:=d)
  have x2:=hcl i hlt
  have x3:=h i hlt
  generalize c i=cs at *
  simp +contextual +decide (maxSteps:=1000000) only [↓ wP,wQ,tf,ne_eq,ha.idx,t0,t1,t7,t8,d1,x1,x2]
  refine cZ.1 ((x3 ⟨n,low,o⟩ (bC (low:=low0) hn hoth)).wcall fun so hso=>?_)
  rw [aI]
  obtain ⟨n',low',o',e1,h1,h2⟩:=dA hso
  rw [e1]
  cases hp:p i with
  | true=>
    have hf:(List.range m).findIdx? p=some i:=by
     rw [List.findIdx?_eq_some_iff_getElem]
     refine ⟨by simpa using hlt,by simpa using hp,fun j hj=>?_⟩
     have:=hpre j hj
     simpa using this
    simp +contextual +decide (maxSteps:=1000000) only [↓ wP,wQ,ne_eq,aZ,hf]
    exact bC (by omega) (fun id hid=>by rw [h2 id (by omega)];exact hoth id hid)
  | false=>
    simp +contextual +decide (maxSteps:=1000000) only [↓ wP,wQ,ne_eq,t8,d5]
    exact ⟨i+1,by show _-_<_-_;omega,_,n',low',o',rfl,by simp +decide only [↓ aB,t0],by simp +decide only [↓ aB,t1],by simp +decide only [↓ aB,t7],by simp +decide only [↓ aB],hlt,fun j hj=>by
     rcases Nat.lt_succ_iff_lt_or_eq.1 hj with hj | rfl
     ·exact hpre j hj
     ·exact hp,by omega,fun id hid=>by rw [h2 id (by omega)];exact hoth id hid⟩
 ·have:i=m:=by omega
  subst this
  have d1:(((i:Nat):Int)<(i:Nat))=False:=eq_false (by omega)
  have hf:(List.range i).findIdx? p=none:=by
   rw [List.findIdx?_eq_none_iff]
   intro x hx
   exact hpre x (List.mem_range.1 hx)
  simp +contextual +decide (maxSteps:=1000000) only [↓ wP,wQ,t7,t8,d1,aZ,hf]
  exact bC hn hoth
theorem HN {O:bX} (ho:∀ a σ,O 141 a σ=none) (ho':∀ a σ,O 128 a σ=none) (g:FuncId) (cap:List AV) (a:AV) (xs:List AV) (ha:Sl a xs) (m:Nat) (hlen:xs.length=m) (c:Nat->List AV) (hix:∀ i,i<m->∀ {q:IntKind} {d:Option AV},fK (some 3) xs (.int q (i:Nat)) d=some (.pf (.agg (c i)))) (hcl:∀ i,i<m->(c i).length=3) (p:Nat->Bool) (s:Sto)
 (h:∀ i,i<m->∀ s',Sim s s'->RetS Tryz.prog O (.func (.func g) [] cap) [.agg (c i)] s' (.bool (p i))):RetS Tryz.prog O (.func (.func 128) [] []) [a,.func (.func g) [] cap] s (.bool ((List.range m).any p)):=by
 have hx:=fun s' hs=>SQ ho g cap a xs ha m hlen c hix hcl p s' fun x hx s'' hs'=>h x hx s'' (Sim.trans (b:=s') hs hs')
 refine RetS.run (first:=[]) (args:=[a,.func (.func g) [] cap]) (cap:=[]) aL (ho' _ _) (by kernel_rfl) Tryz.func128 Tryz.ntmps128 Tryz.results128 rfl rfl ?_
 obtain ⟨n0,low0,o0⟩:=s
 show Wk _ _ _ _ ⟨9,none,128,Tr.leaf.lay 0 [a,.func (.func g) [] cap],[],⟨n0,n0,o0⟩,.no⟩ _
 simp +contextual +decide (maxSteps:=1000000) only [↓ wP,wQ,ne_eq,ho,aP]
 refine bQ (ho _ _) ((hx ⟨n0,n0,o0⟩ (bC (Nat.le_refl _) fun _ _=>rfl)).wcall fun so hso=>?_)
 rw [aI]
 obtain ⟨n',low',o',e1,h1,h2⟩:=dA hso
 rw [e1]
 cases hf:(List.range m).findIdx? p with
 | none=>
   have hany:(List.range m).any p=false:=by
    rw [List.any_eq_false];intro x hx;have:=List.findIdx?_eq_none_iff.1 hf x hx;simp [this]
   simp +contextual +decide (maxSteps:=1000000) only [↓ wP,wQ,aZ,hany]
   exact bC h1 h2
 | some i=>
   have hany:(List.range m).any p=true:=by
    obtain ⟨h3,h4,_⟩:=List.findIdx?_eq_some_iff_getElem.1 hf
    rw [List.any_eq_true];exact ⟨_,List.getElem_mem h3,h4⟩
   simp +contextual +decide (maxSteps:=1000000) only [↓ wP,wQ,aZ,hany,show ((0:Int)<=(i:Nat))=True from eq_true (by omega)]
   exact bC h1 h2
theorem OP {O:bX} (ho1:∀ a σ,O 129 a σ=none) (g:FuncId) (cap:List AV) (cs:List AV) (hcs:cs.length=3) (hcc:cs.all AV.isCell=true) (b:Bool) (c:Nat) (s:Sto) (hc:s.get c=some (aU 0 [.func (.func g) [] cap]))
 (h:∀ s',Sim s s'->RetS Tryz.prog O (.func (.func g) [] cap) [.agg cs] s' (.bool b)):RetS Tryz.prog O (.func (.func 129) [] [.ptr c 0 0]) [.agg cs] s (.bool !b):=by
 refine RetS.run (first:=[]) (args:=[.agg cs]) (cap:=[.ptr c 0 0]) aL (ho1 _ _) (by kernel_rfl) Tryz.func129 Tryz.ntmps129 Tryz.results129 rfl rfl ?_
 obtain ⟨n0,low0,o0⟩:=s
 have hcn:c<n0:=Sto.get_lt hc
 rw [Sto.get_mk hcn]at hc
 have f0:=bA hcn
 have hz:0+3<=cs.length:=by omega
 show Wk _ _ _ _ ⟨8,none,129,Tr.leaf.lay 0 [.agg cs,.ptr c 0 0],[],⟨n0,n0,o0⟩,.no⟩ _
 simp +contextual +decide (maxSteps:=1000000) only [↓ wP,wQ,tf,Nat.reduceAdd,ne_eq,hc,hcc,hcs,f0,cS,show aG cs 0 3=cs from by unfold aG;rw [List.drop_zero,List.take_of_length_le (by omega)]]
 refine cZ.1 ((h _ (bC (by omega) fun id hid=>by rw [Tr.get_set_ne _ _ (by omega)])).wcall fun so hso=>?_)
 rw [aI]
 obtain ⟨n',low',o',e1,h1,h2⟩:=dA hso
 rw [e1]
 simp +contextual +decide (maxSteps:=1000000) only [↓ wP,wQ,aZ]
 exact bC (by omega) (fun id hid=>by rw [h2 id (by omega),Tr.get_set_ne _ _ (by omega)])
theorem EP {O:bX} (ho:∀ a σ,O 141 a σ=none) (ho':∀ a σ,O 128 a σ=none) (ho1:∀ a σ,O 129 a σ=none) (ho2:∀ a σ,O 81 a σ=none)
 (g:FuncId) (cap:List AV) (a:AV) (xs:List AV) (ha:Sl a xs) (m:Nat) (hlen:xs.length=m) (c:Nat->List AV) (hix:∀ i,i<m->∀ {q:IntKind} {d:Option AV},fK (some 3) xs (.int q (i:Nat)) d=some (.pf (.agg (c i)))) (hcl:∀ i,i<m->(c i).length=3) (hcc:∀ i,i<m->(c i).all AV.isCell=true) (p:Nat->Bool) (most:Nat) (s:Sto)
 (h:∀ i,i<m->∀ s',Sim s s'->RetS Tryz.prog O (.func (.func g) [] cap) [.agg (c i)] s' (.bool (p i))):RetS Tryz.prog O (.func (.func 81) [] []) [a,.int .i64 (most:Nat),.func (.func g) [] cap] s (.bool (decide (m<=most)&&(List.range m).all p)):=by
 refine RetS.run (first:=[]) (args:=[a,.int .i64 (most:Nat),.func (.func g) [] cap]) (cap:=[]) aL (ho2 _ _) (by kernel_rfl) Tryz.func81 Tryz.ntmps81 Tryz.results81 rfl rfl ?_
 obtain ⟨n0,low0,o0⟩:=s
 show Wk _ _ _ _ ⟨17,none,81,Tr.leaf.lay 0 [a,.int .i64 (most:Nat),.func (.func g) [] cap],[],⟨n0,n0,o0⟩,.no⟩ _
 have d1:(((m:Nat):Int)<=(most:Nat))=(m<=most):=propext (by omega)
 by_cases hl:m<=most
 ·simp +contextual +decide (maxSteps:=1000000) only [↓ wP,wQ,tf,ne_eq,ha.len,hlen,d1,hl,ho',aP]
  refine bQ (ho' _ _) ((HN ho ho' 129 [.ptr n0 0 0] a xs ha m hlen c hix hcl (fun i=>!p i) ⟨n0+1,n0,o0.set n0 (aU 0 [.func (.func g) [] cap])⟩ fun i hi s' hs=>?_).wcall fun so hso=>?_)
  ·refine OP ho1 g cap (c i) (hcl i hi) (hcc i hi) (p i) n0 s' (hs.get ?_) fun s'' hs'=>h i hi s'' ?_
   ·rw [Sto.get_mk (by omega),Tr.get_set_same]
   ·exact (bC (by omega) fun id hid=>by rw [Tr.get_set_ne _ _ (by omega)]:Sim ⟨n0,low0,o0⟩ ⟨n0+1,n0,o0.set n0 (aU 0 [.func (.func g) [] cap])⟩).trans (hs.trans hs')
  ·rw [aI]
   obtain ⟨n',low',o',e1,h1,h2⟩:=dA hso
   rw [e1]
   have hany:((List.range m).any fun x=>!p x) = !(List.range m).all p:=by rw [<-List.not_all_eq_any_not]
   rw [hany]
   simp +contextual +decide (maxSteps:=1000000) only [↓ wP,wQ,ne_eq,aZ,Bool.not_not]
   exact bC (by omega) (fun id hid=>by rw [h2 id (by omega),Tr.get_set_ne _ _ (by omega)])
 ·simp +contextual +decide (maxSteps:=1000000) only [↓ wP,wQ,tf,ne_eq,ha.len,hlen,d1,hl,aZ]
  exact ⟨by simp,bC (by omega) (fun id hid=>by rw [Tr.get_set_ne _ _ (by omega)])⟩
theorem mK {α:Type} [Inhabited α] (l:List α) (p:α->Bool):(List.range l.length).all (fun i=>p (l.getD i default))=l.all p:=by
 rw [Bool.eq_iff_iff,List.all_eq_true,List.all_eq_true]
 constructor
 ·intro h x hx
  obtain ⟨i,hi,rfl⟩:=List.mem_iff_getElem.1 hx
  have:=h i (List.mem_range.2 hi)
  rwa [bZ hi]at this
 ·intro h i hi
  have hi':=List.mem_range.1 hi
  rw [bZ hi'];exact h _ (List.getElem_mem _)
theorem aLp (l:List eZ) {i:Nat} (h:i<l.length) {q:IntKind} {d:Option AV}:fK (some 2) (l.map eH) (.int q (i:Nat)) d=some (.pf (.agg (yM (l.getD i default)))):=aIc l h
theorem everyVals {O:bX} (ho:∀ a σ,O 140 a σ=none) (ho':∀ a σ,O 126 a σ=none) (ho1:∀ a σ,O 127 a σ=none) (ho2:∀ a σ,O 79 a σ=none)
 (g:FuncId) (cap:List AV) (a:AV) (l:List eZ) (ha:Sl a (l.map eH)) (p:eZ->Bool) (most:Nat) (s:Sto)
 (h:∀ x∈l,∀ s',Sim s s'->RetS Tryz.prog O (.func (.func g) [] cap) [eH x] s' (.bool (p x))):RetS Tryz.prog O (.func (.func 79) [] []) [a,.int .i64 (most:Nat),.func (.func g) [] cap] s (.bool (decide (l.length<=most)&&l.all p)):=by
 have:=SP ho ho' ho1 ho2 g cap a _ ha l.length (by simp) (fun i=>yM (l.getD i default)) (fun i hi {q d}=>aLp l hi) (fun _ _=>rfl) (fun _ _=>rfl) (fun i=>p (l.getD i default)) most s (fun i hi s' hs=>h _ (by rw [bZ hi];exact List.getElem_mem _) s' hs)
 rwa [mK]at this
end
end Go.Proofs.YtajngkkihadgfaaGreat
/-
 The program of images: objects that can be stored.
-/
namespace Go.Proofs.YtajngkkihadgfaaGreat
open Go.Abs Go Go.Abs.TryzF
noncomputable section
set_option maxRecDepth 10000
def CT:List AV->Option AV
 | [a]=>(tZ a).map fun f=>.bool (nF f)
 | _=>none
theorem SR {a:AV} {f:Fr} (h:tZ a=some f):CT [a]=some (.bool (nF f)):=by simp [CT,h]
abbrev L82:List iW:=[ent 77 RA,ent 80 xJ]
theorem aDf (x:eZ) (s:Sto):RetS Tryz.prog (orcL L82) (.func (.func 80) [] []) [eH x] s (.bool (jC x)):=.orc (by
 show orcL L82 _ [eH x] s=_
 rw [gP (by decide),ent_same];rfl)
theorem VS (a:AV) (l:List eZ) (h:bR a=some l) (s:Sto):RetS Tryz.prog (orcL L82) (.func (.func 79) [] []) [a,.int .i64 30,.func (.func 80) [] []] s (.bool (dH l)):=
 everyVals (fun _ _=>rfl) (fun _ _=>rfl) (fun _ _=>rfl) (fun _ _=>rfl) 80 [] a l (cY h) jC 30 s fun x _ s' _=>aDf x s'
theorem iFramed_ok:Abs.Ok Tryz.prog 82 CT:=by
 intro args v hg
 match args,hg with
 | [a],hg=>
   obtain ⟨f,hf,rfl⟩:=Option.map_eq_some_iff.1 hg
   have hund:=(OV hf).und
   obtain ⟨e,w,rfl,he,hw⟩:=mM hf
   have ce:=aX he
   have cw:=aX hw
   refine aR (L:=L82) (elist_cons iIn_ok.ent (elist_cons iValued_ok.ent aH)) aL (by kernel_rfl) Tryz.func82 Tryz.ntmps82 Tryz.results82 rfl rfl (aC hund aE) cA ?_
   cases k1:jE f.node 0 1073741824 with
   | false=>
     simp +contextual +decide (maxSteps:=1000000) only [↓ wP,wQ,tf,Nat.reduceAdd,ne_eq,ce,cw,bW,k1]
     simp [nF,k1]
   | true=>
     simp +contextual +decide (maxSteps:=1000000) only [↓ wP,wQ,tf,Nat.reduceAdd,ne_eq,ce,cw,bW,k1,show ∀ a σ,orcL L82 79 a σ=none from fun _ _=>rfl,aP]
     refine bQ rfl ((VS e f.env he _).wcall fun so hso=>?_)
     rw [aI]
     obtain ⟨n1,low1,o1,e1,h1,h2⟩:=dA hso
     rw [e1]
     have g0:o1.get 0=some (aU 0 [.int .i64 f.node,e,w]):=by rw [h2 0 (by omega),Tr.get_set_same]
     have f0:=bA (show 0<n1 by omega)
     cases k2:dH f.env with
     | false=>
       simp +contextual +decide (maxSteps:=1000000) only [↓ wP,wQ,ne_eq]
       simp [nF,k1,k2]
     | true=>
       simp +contextual +decide (maxSteps:=1000000) only [↓ wP,wQ,tf,Nat.reduceAdd,ne_eq,g0,f0,show ∀ a σ,orcL L82 79 a σ=none from fun _ _=>rfl,aP]
       refine bQ rfl ((VS w f.vals hw _).wcall fun so hso=>?_)
       rw [aI]
       obtain ⟨n2,low2,o2,e2,_,_⟩:=dA hso
       rw [e2]
       simp +contextual +decide (maxSteps:=1000000) only [↓ wP,wQ,ne_eq]
       simp [nF,k1,k2]
abbrev L36:List iW:=[ent 77 RA,ent 78 oP,ent 80 xJ,ent 82 CT]
theorem aDg (x:eZ) (s:Sto):RetS Tryz.prog (orcL L36) (.func (.func 80) [] []) [eH x] s (.bool (jC x)):=.orc (by
 show orcL L36 _ [eH x] s=_
 rw [gP (by decide),gP (by decide),ent_same];rfl)
theorem aHt (a:AV) (l:List eZ) (h:bR a=some l) (s:Sto):RetS Tryz.prog (orcL L36) (.func (.func 79) [] []) [a,.int .i64 30,.func (.func 80) [] []] s (.bool (dH l)):=
 everyVals (fun _ _=>rfl) (fun _ _=>rfl) (fun _ _=>rfl) (fun _ _=>rfl) 80 [] a l (cY h) jC 30 s fun x _ s' _=>aDg x s'
theorem AO {a:AV} {l:List Fr} (h:nO a=some l):∃ (xs:List AV) (c:Nat->List AV),Sl a xs/\xs.length=l.length/\(∀ i,i<l.length->(∀ {q:IntKind} {d:Option AV},fK (some 3) xs (.int q (i:Nat)) d=some (.pf (.agg (c i))))/\(c i).length=3/\(c i).all AV.isCell=true/\tZ (.agg (c i))=some (l.getD i default)):=by
 obtain ⟨xs,h1,h2,h3⟩:=vE h
 refine ⟨xs,fun i=>(xs.getD i .top).cells,h1,h2,fun i hi=>?_⟩
 have hx:i<xs.length:=by omega
 obtain ⟨e,v,q1,q2,q3⟩:=mM (h3 i hx hi)
 have hxi:xs.getD i .top=.agg [.int .i64 l[i].node,e,v]:=by rw [bZ hx];exact q1
 refine ⟨fun {q d}=>?_,by simp only [hxi];rfl,?_,?_⟩
 ·simp only [hxi]
  refine qE (by omega) (by omega) ?_ rfl
  rw [Int.toNat_natCast,List.getElem?_eq_getElem hx,q1];rfl
 ·simp only [hxi,AV.cells]
  simp only [List.all_cons,List.all_nil,aX q2,aX q3];rfl
 ·simp only [hxi,AV.cells]
  rw [bZ hi,<-h3 i hx hi,q1]
theorem aDh (a:AV) (l:List Fr) (h:nO a=some l) (s:Sto):RetS Tryz.prog (orcL L36) (.func (.func 81) [] []) [a,.int .i64 40,.func (.func 82) [] []] s (.bool (yS l)):=by
 obtain ⟨xs,c,h1,h2,h3⟩:=AO h
 have:=EP (O:=orcL L36) (fun _ _=>rfl) (fun _ _=>rfl) (fun _ _=>rfl) (fun _ _=>rfl) 82 [] a xs h1 l.length h2 c (fun i hi {q d}=>(h3 i hi).1) (fun i hi=>(h3 i hi).2.1) (fun i hi=>(h3 i hi).2.2.1) (fun i=>nF (l.getD i default)) 40 s (fun i hi s' hs=>.orc (by
  show orcL L36 _ [.agg (c i)] s'=_
  rw [gP (by decide),gP (by decide),gP (by decide),ent_same,SR (h3 i hi).2.2.2];rfl))
 rwa [mK]at this
theorem formed_ok:Abs.Ok Tryz.prog 36 iT:=by
 intro args v hg
 match args,hg with
 | [a],hg=>
   obtain ⟨o,ho,rfl⟩:=Option.map_eq_some_iff.1 hg
   have hund:=(lK ho).und
   obtain ⟨vs,fs,rfl,hvs,hfs⟩:=fH ho
   have c1:=aX hvs
   have c2:=jO hfs
   refine aR (L:=L36) (elist_cons iIn_ok.ent (elist_cons iNumber_ok.ent (elist_cons iValued_ok.ent (elist_cons iFramed_ok.ent aH)))) aL (by kernel_rfl) Tryz.func36 Tryz.ntmps36 Tryz.results36 rfl rfl (aC hund aE) cA ?_
   cases k1:jE o.form 1 6 with
   | false=>
     simp +contextual +decide (maxSteps:=1000000) only [↓ wP,wQ,tf,Nat.reduceAdd,ne_eq,c1,c2,bW,k1]
     simp [fY,k1]
   | true=>
   cases k2:dF o.n with
   | false=>
     simp +contextual +decide (maxSteps:=1000000) only [↓ wP,wQ,tf,Nat.reduceAdd,ne_eq,c1,c2,bW,k1,lH,k2]
     simp [fY,k1,k2]
   | true=>
     simp +contextual +decide (maxSteps:=1000000) only [↓ wP,wQ,tf,Nat.reduceAdd,ne_eq,c1,c2,bW,k1,lH,k2,show ∀ a σ,orcL L36 79 a σ=none from fun _ _=>rfl,aP]
     refine bQ rfl ((aHt vs o.vals hvs _).wcall fun so hso=>?_)
     rw [aI]
     obtain ⟨n1,low1,o1,e1,h1,h2⟩:=dA hso
     rw [e1]
     have g0:o1.get 0=some (aU 0 [.int .i64 o.form,.int .i64 o.n,vs,fs]):=by rw [h2 0 (by omega),Tr.get_set_same]
     have f0:=bA (show 0<n1 by omega)
     cases k3:dH o.vals with
     | false=>
       simp +contextual +decide (maxSteps:=1000000) only [↓ wP,wQ,ne_eq]
       simp [fY,k1,k2,k3]
     | true=>
       simp +contextual +decide (maxSteps:=1000000) only [↓ wP,wQ,tf,Nat.reduceAdd,ne_eq,g0,f0,show ∀ a σ,orcL L36 81 a σ=none from fun _ _=>rfl,aP]
       refine bQ rfl ((aDh fs o.frs hfs _).wcall fun so hso=>?_)
       rw [aI]
       obtain ⟨n2,low2,o2,e2,_,_⟩:=dA hso
       rw [e2]
       simp +contextual +decide (maxSteps:=1000000) only [↓ wP,wQ,ne_eq]
       simp [fY,k1,k2,k3]
end
end Go.Proofs.YtajngkkihadgfaaGreat
/-
 The program of images: its writer.
-/
namespace Go.Proofs.YtajngkkihadgfaaGreat
open Go.Abs Go Go.Abs.TryzF
noncomputable section
set_option maxRecDepth 10000
def WBo (n:Nat) (o:Tr AObj) (w a:Nat) (bs:List Nat):Prop:=w<n/\a<n/\((bs=[]/\o.get w=some (aU 0 [.nils])/\a=w)∨(bs≠[]/\∃ g,o.get w=some (aU 0 [.sl a g 0 bs.length (.room 1)])/\o.get a=some (aU g (bs.map encB))/\a≠w))
def FrW (n:Nat) (o:Tr AObj) (w a n':Nat) (o':Tr AObj) (a':Nat):Prop:=n<=n'/\(a'=a∨n<=a')/\∀ id,id<n->id≠w->id≠a->o'.get id=o.get id
theorem FrW.refl {n:Nat} {o:Tr AObj} {w a:Nat}:FrW n o w a n o a:=⟨Nat.le_refl _,.inl rfl,fun _ _ _ _=>rfl⟩
theorem FrW.trans {n n' n'' w a a' a'':Nat} {o o' o'':Tr AObj} (h:FrW n o w a n' o' a') (h':FrW n' o' w a' n'' o'' a''):FrW n o w a n'' o'' a'':=by
 obtain ⟨h1,h2,h3⟩:=h
 obtain ⟨k1,k2,k3⟩:=h'
 refine ⟨by omega,by omega,fun id q1 q2 q3=>?_⟩
 rw [k3 id (by omega) q2 (by omega),h3 id q1 q2 q3]
def RetW (P:Program) (O:bX) (fv:AV) (args:List AV) (n low:Nat) (o:Tr AObj) (w a:Nat) (bs:List Nat):Prop:=∃ n' low' o' a',low'<=w/\WBo n' o' w a' bs/\FrW n o w a n' o' a'/\∃ k rr,aS P O k fv args ⟨n,low,o⟩ .no=some (.ret (.tuple []) (some ⟨n',low',o'⟩),rr)
theorem RetW.wcall {P:Program} {O:bX} {fv:AV} {args:List AV} {n low:Nat} {o:Tr AObj} {w a:Nat} {bs:List Nat} {K:CRes->Prop} (h:RetW P O fv args n low o w a bs) (hK:∀ n' low' o' a',low'<=w->WBo n' o' w a' bs->FrW n o w a n' o' a'->K (.ret (.tuple []) (some ⟨n',low',o'⟩))):Wcall P O fv args ⟨n,low,o⟩ K:=by
 obtain ⟨n',low',o',a',h1,h2,h3,k,rr,h4⟩:=h
 exact ⟨k,_,_,h4,hK n' low' o' a' h1 h2 h3⟩
def aHu (P:Program) (rs:List ResultVar) (n:Nat) (o:Tr AObj) (w a:Nat) (bs:List Nat):Ex->Env->Prop
 | .normal,e=>e.ds=[]/\e.r=.no/\rs=[]/\∃ n' low' o' a',e.s=⟨n',low',o'⟩/\low'<=w/\WBo n' o' w a' bs/\FrW n o w a n' o' a'
 | .ret,e=>e.ds=[]/\e.r=.no/\rs=[]/\∃ n' low' o' a',e.s=⟨n',low',o'⟩/\low'<=w/\WBo n' o' w a' bs/\FrW n o w a n' o' a'
 | _,_=>False
theorem kM {P:Program} {n:Nat} {o:Tr AObj} {w a:Nat} {bs:List Nat} {nt:Nat} {ro:Option Nat} {fn:FuncId} {t:Tr AV} {n' low':Nat} {o':Tr AObj}:aHu P [] n o w a bs .normal ⟨nt,ro,fn,t,[],⟨n',low',o'⟩,.no⟩↔∃ a',low'<=w/\WBo n' o' w a' bs/\FrW n o w a n' o' a':=by
 simp only [aHu,true_and,Sto.mk.injEq]
 constructor
 ·rintro ⟨_,_,_,a',⟨rfl,rfl,rfl⟩,h⟩;exact ⟨a',h⟩
 ·rintro ⟨a',h⟩;exact ⟨_,_,_,a',⟨rfl,rfl,rfl⟩,h⟩
theorem aLq {P:Program} {n:Nat} {o:Tr AObj} {w a:Nat} {bs:List Nat} {nt:Nat} {ro:Option Nat} {fn:FuncId} {t:Tr AV} {n' low':Nat} {o':Tr AObj}:aHu P [] n o w a bs .ret ⟨nt,ro,fn,t,[],⟨n',low',o'⟩,.no⟩↔∃ a',low'<=w/\WBo n' o' w a' bs/\FrW n o w a n' o' a':=kM (P:=P) (ro:=ro) (fn:=fn) (nt:=nt) (t:=t) (low':=low')
theorem RetW.run {P:Program} {O:bX} {g:FuncId} {first cap args:List AV} {n low:Nat} {o:Tr AObj} {w a:Nat} {bs:List Nat} {fn:Func} {c:Code} {N:Nat} {rs:List ResultVar} (H:iD) (ho:O g (first++args++cap) ⟨n,low,o⟩=none) (hok:okFn P g=true) (hf:P.funcs[g]?=some fn) (hn:fn.ntmps=N) (hr:fn.results=rs.toArray) (hb:fn.body=some c)
 (ha:Nat.ble (first++args++cap).length N=true) (hw:w<n) (h:Wk P O H c ⟨N,none,g,Tr.leaf.lay 0 (first++args++cap),[],⟨n,n,o⟩,.no⟩ (aHu P rs n o w a bs)):RetW P O (.func (.func g) first cap) args n low o w a bs:=by
 have key:Wcall P O (.func (.func g) first cap) args ⟨n,low,o⟩ fun res=>∃ n' low' o' a',res=.ret (.tuple []) (some ⟨n',low',o'⟩)/\low'<=w/\WBo n' o' w a' bs/\FrW n o w a n' o' a':=by
  refine kX ho hok hf hb ?_
  have he:LH fn g (first++args++cap) ⟨n,low,o⟩ .no=⟨N,none,g,Tr.leaf.lay 0 (first++args++cap),[],⟨n,n,o⟩,.no⟩:=pJ hn ha
  rw [he]
  refine h.sound.mono fun ex e hq=>?_
  have key:e.ds=[]/\e.r=.no/\rs=[]/\(∃ n' low' o' a',e.s=⟨n',low',o'⟩/\low'<=w/\WBo n' o' w a' bs/\FrW n o w a n' o' a')->Lv P O fn none e (clR ⟨n,low,o⟩ fun res _=>∃ n' low' o' a',res=.ret (.tuple []) (some ⟨n',low',o'⟩)/\low'<=w/\WBo n' o' w a' bs/\FrW n o w a n' o' a'):=by
   rintro ⟨h1,h2,rfl,n',low',o',a',h3,h4,h5⟩
   refine kO h1 (vs:=[]) (by rw [hr];rfl) ?_
   show ∃ n' low' o' a',CRes.ret (.tuple []) (dL ⟨n,low,o⟩ (.tuple []) e)=_/\_
   rw [eQ (by rw [h3];exact Nat.lt_of_le_of_lt h4 hw),h3]
   exact ⟨n',Nat.min low low',o',a',rfl,Nat.le_trans (Nat.min_le_right _ _) h4,h5⟩
  cases ex with
  | normal=>exact key hq
  | ret=>exact key hq
  | _=>exact hq.elim
 obtain ⟨k,res,rr,h1,n',low',o',a',rfl,h2,h3,h4⟩:=key
 exact ⟨n',low',o',a',h2,h3,h4,k,rr,h1⟩
def iY:Nat:=1099511627776
set_option maxHeartbeats 1000000 in
theorem jN {O:bX} (ho:∀ a σ,O 108 a σ=none) (n0 low0:Nat) (o0:Tr AObj) (w a0:Nat) (bs:List Nat) (m0:Nat) (hm:m0<9223372036854775808) (hb:bs.length+(bL m0).length<=iY) (hw:WBo n0 o0 w a0 bs):
 RetW Tryz.prog O (.func (.func 108) [] []) [.ptr w 0 0,.int .i64 (m0:Nat)] n0 low0 o0 w a0 (bs++bL m0):=by
 have hw':=hw.1
 refine RetW.run (first:=[]) (args:=[.ptr w 0 0,.int .i64 (m0:Nat)]) (cap:=[]) aL (ho _ _) (by kernel_rfl) Tryz.func108 Tryz.ntmps108 Tryz.results108 rfl rfl hw' ?_
 show Wk _ _ _ _ ⟨32,none,108,Tr.leaf.lay 0 [.ptr w 0 0,.int .i64 (m0:Nat)],[],⟨n0,n0,o0⟩,.no⟩ _
 unfold iY at hb
 simp +contextual +decide (maxSteps:=1000000) only [↓ wP]
 refine bE (fun m e=>∃ t n low o a bs',e=⟨32,none,108,t,[],⟨n,low,o⟩,.no⟩/\t.val 0=.ptr w 0 0/\t.val 1=.int .i64 (m:Nat)/\WBo n o w a bs'/\FrW n0 o0 w a0 n o a/\bs'++bL m=bs++bL m0/\m<=m0) (fun m=>m) m0
  ⟨_,n0,n0,o0,a0,bs,rfl,by simp +decide only [dJ,cL],by simp +decide only [dJ,cL],hw,.refl,rfl,Nat.le_refl _⟩ ?_
 rintro m _ ⟨t,n,low,o,a,bs',rfl,t0,t1,⟨hwn,han,hcase⟩,hfr,hbs,hmm⟩
 have d1:(127<(m:Int))=(127<m):=propext (by omega)
 have hlen:bs'.length+(bL m).length=bs.length+(bL m0).length:=by rw [<-List.length_append,hbs,List.length_append]
 have f1:=bA hwn
 have f2:=bA han
 by_cases hlt:127<m
 ·have hu:bL m=(m%128+128)::bL (m/128):=by rw [bL,dif_pos hlt]
  have e1:Int.tmod (m:Int) 128=((m%128:Nat):Int):=gL
  have e2:IntKind.i64.wrap (((m%128:Nat):Int)+128)=((m%128+128:Nat):Int):=by rw [IntWalk.i64_in _ (by omega)];omega
  have e3:IntKind.u8.wrap ((m%128+128:Nat):Int)=((m%128+128:Nat):Int):=by rw [nP];omega
  have e4:IntKind.i64.wrap (Int.tdiv (m:Int) 128)=((m/128:Nat):Int):=by rw [show Int.tdiv (m:Int) 128=((m/128:Nat):Int) from gM,cM (by omega)]
  have hsmall:2*(bs'.length+1)+1024<=281474976710656/\bs'.length+1<4611686018427387904:=⟨by omega,by omega⟩
  rcases hcase with ⟨rfl,hg,rfl⟩ | ⟨hne,g,hg,hga,haw⟩
  ·simp +contextual +decide (maxSteps:=1000000) only [↓ wP,wQ,tf,Nat.reduceAdd,ne_eq,t0,t1,d1,hlt,e1,e2,e3,e4,hg,f1,cS,Nat.mul_one,Nat.zero_add]
   refine ⟨m/128,by show m/128<m;omega,_,n+1+1,_,_,n+1,[m%128+128],rfl,by simp +decide only [↓ aB,t0],by simp +decide only [↓ aB],⟨by omega,by omega,.inr ⟨by simp,0,?_,?_,by omega⟩⟩,hfr.trans ⟨by omega,.inr (by omega),fun id q1 q2 q3=>?_⟩,by rw [<-hbs,hu];rfl,by omega⟩
   ·simp +contextual +decide (maxSteps:=1000000) only [↓ wP,wQ,Nat.reduceAdd]
   ·simp +contextual +decide (maxSteps:=1000000) only [↓ wP,wQ,ne_eq,f1]
    rfl
   ·have f5:=bA q1
    simp +decide only [↓ aB,f5,q2,ne_eq]
  ·have f3:a≠w/\w≠a:=⟨haw,fun h=>haw h.symm⟩
   have hl1:(bs'.map encB).length=bs'.length:=List.length_map _
   simp +contextual +decide (maxSteps:=1000000) only [↓ wP,wQ,tf,ne_eq,t0,t1,d1,hlt,e1,e2,e3,e4,hg,hga,f1,f2,f3,cS,hl1,hsmall,Nat.mul_one,Nat.zero_add]
   refine ⟨m/128,by show m/128<m;omega,_,n+1,_,_,a,bs'++[m%128+128],rfl,by simp +decide only [↓ aB,t0],by simp +decide only [↓ aB],⟨by omega,by omega,.inr ⟨by simp,g+1,?_,?_,haw⟩⟩,hfr.trans ⟨by omega,.inl rfl,fun id q1 q2 q3=>?_⟩,by rw [<-hbs,hu,List.append_assoc];rfl,by omega⟩
   ·simp +contextual +decide (maxSteps:=1000000) only [↓ wP,wQ,Nat.reduceAdd,List.length_append]
   ·simp +contextual +decide (maxSteps:=1000000) only [↓ wP,wQ,ne_eq,f3]
    rw [List.map_append];rfl
   ·have f5:=bA q1
    simp +decide only [↓ aB,f5,q2,q3,ne_eq]
 ·have hu:bL m=[m]:=by rw [bL,dif_neg hlt]
  have e3:IntKind.u8.wrap (m:Int)=(m:Int):=by rw [nP];omega
  have hsmall:2*(bs'.length+1)+1024<=281474976710656/\bs'.length+1<4611686018427387904:=⟨by rw [hu]at hlen;simp at hlen;omega,by rw [hu]at hlen;simp at hlen;omega⟩
  rw [<-hbs,hu]
  rcases hcase with ⟨rfl,hg,rfl⟩ | ⟨hne,g,hg,hga,haw⟩
  ·simp +contextual +decide (maxSteps:=1000000) only [↓ wP,wQ,tf,Nat.reduceAdd,ne_eq,t0,t1,d1,hlt,e3,hg,f1,cS,Nat.mul_one,Nat.zero_add,kM]
   refine ⟨n+1,Nat.min_le_left _ _,⟨by omega,by omega,.inr ⟨by simp,0,?_,?_,by omega⟩⟩,hfr.trans ⟨by omega,.inr (by omega),fun id q1 q2 q3=>?_⟩⟩
   ·simp +contextual +decide (maxSteps:=1000000) only [↓ wP,wQ,Nat.reduceAdd]
   ·simp +contextual +decide (maxSteps:=1000000) only [↓ wP,wQ,ne_eq,f1]
    rfl
   ·have f5:=bA q1
    simp +decide only [↓ aB,f5,q2,ne_eq]
  ·have f3:a≠w/\w≠a:=⟨haw,fun h=>haw h.symm⟩
   have hl1:(bs'.map encB).length=bs'.length:=List.length_map _
   simp +contextual +decide (maxSteps:=1000000) only [↓ wP,wQ,tf,ne_eq,t0,t1,d1,hlt,e3,hg,hga,f1,f2,f3,cS,hl1,hsmall,Nat.mul_one,Nat.zero_add,kM]
   refine ⟨a,Nat.min_le_left _ _,⟨by omega,by omega,.inr ⟨by simp,g+1,?_,?_,haw⟩⟩,hfr.trans ⟨by omega,.inl rfl,fun id q1 q2 q3=>?_⟩⟩
   ·simp +contextual +decide (maxSteps:=1000000) only [↓ wP,wQ,Nat.reduceAdd,List.length_append]
   ·simp +contextual +decide (maxSteps:=1000000) only [↓ wP,wQ,ne_eq,f3]
    rw [List.map_append];rfl
   ·have f5:=bA q1
    simp +decide only [↓ aB,f5,q2,q3,ne_eq]
end
end Go.Proofs.YtajngkkihadgfaaGreat
/-
 The program of images: its writer BG values and lists.
-/
namespace Go.Proofs.YtajngkkihadgfaaGreat
open Go.Abs Go Go.Abs.TryzF
noncomputable section
set_option maxRecDepth 10000
theorem VT {P:Program} {O:bX} {g:FuncId} {first args:List AV} {s:Sto} {K:CRes->Prop} (h:Wcall P O (.func (.func g) first []) args s K):GF (O g (first++args) s) K (aFr P O (.func (.func g) first []) args s K):=by
 have:=cZ.1 h
 rwa [List.append_nil]at this
theorem kN {O:bX} (ho:∀ a σ,O 108 a σ=none) (ho':∀ a σ,O 83 a σ=none) (n0 low0:Nat) (o0:Tr AObj) (w a0:Nat) (bs:List Nat) (m:Int) (hm:dF m=true) (hb:(bs++dY m).length<=iY) (hw:WBo n0 o0 w a0 bs):
 RetW Tryz.prog O (.func (.func 83) [] []) [.ptr w 0 0,.int .i64 m] n0 low0 o0 w a0 (bs++dY m):=by
 have hw':=hw.1
 have hm':=hm
 simp only [dF,jE,Bool.and_eq_true,decide_eq_true_eq]at hm'
 rw [List.length_append]at hb
 refine RetW.run (first:=[]) (args:=[.ptr w 0 0,.int .i64 m]) (cap:=[]) aL (ho' _ _) (by kernel_rfl) Tryz.func83 Tryz.ntmps83 Tryz.results83 rfl rfl hw' ?_
 show Wk _ _ _ _ ⟨15,none,83,Tr.leaf.lay 0 [.ptr w 0 0,.int .i64 m],[],⟨n0,n0,o0⟩,.no⟩ _
 have hz:=KT hm
 by_cases h0:m<0
 ·have e1:IntKind.i64.wrap (-2*m)=-2*m:=IntWalk.i64_in _ (by omega)
  have e2:IntKind.i64.wrap (-2*m-1)=((JD m:Nat):Int):=by rw [IntWalk.i64_in _ (by omega),JD,if_pos h0];omega
  simp +contextual +decide (maxSteps:=1000000) only [↓ wP,wQ,ne_eq,h0,e1,e2,ho,aP]
  refine bQ (ho _ _) ((jN ho n0 n0 o0 w a0 bs (JD m) (by omega) hb hw).wcall fun n1 low1 o1 a1 hl1 hw1 hf1=>?_)
  rw [aI]
  show cN _ _ _ _ _ _ _ (.val' _ ⟨n1,low1,o1⟩)
  simp +contextual +decide (maxSteps:=1000000) only [↓ wP,wQ,aLq]
  exact ⟨a1,hl1,hw1,hf1⟩
 ·have e2:IntKind.i64.wrap (2*m)=((JD m:Nat):Int):=by rw [IntWalk.i64_in _ (by omega),JD,if_neg h0];omega
  simp +contextual +decide (maxSteps:=1000000) only [↓ wP,wQ,ne_eq,h0,e2,ho,aP]
  refine bQ (ho _ _) ((jN ho n0 n0 o0 w a0 bs (JD m) (by omega) hb hw).wcall fun n1 low1 o1 a1 hl1 hw1 hf1=>?_)
  rw [aI]
  show cN _ _ _ _ _ _ _ (.val' _ ⟨n1,low1,o1⟩)
  simp +contextual +decide (maxSteps:=1000000) only [↓ wP,wQ,kM]
  exact ⟨a1,hl1,hw1,hf1⟩
set_option maxHeartbeats 1000000 in
theorem YP {O:bX} (ho:∀ a σ,O 108 a σ=none) (ho':∀ a σ,O 84 a σ=none) (n0 low0:Nat) (o0:Tr AObj) (w a0:Nat) (bs:List Nat) (hw:WBo n0 o0 w a0 bs) (g:FuncId) (first:List AV)
 (av:AV) (xs:List AV) (ha:Sl av xs) (m:Nat) (hlen:xs.length=m) (c:Nat->List AV) (hix:∀ i,i<m->∀ {q:IntKind} {d:Option AV},fK (some 2) xs (.int q (i:Nat)) d=some (.pf (.agg (c i)))) (hcl:∀ i,i<m->(c i).length=2) (hcc:∀ i,i<m->(c i).all AV.isCell=true)
 (B:Nat->List Nat) (hb:(bs++bL m++(List.range m).flatMap B).length<=iY)
 (h:∀ i,i<m->∀ n low o a bs',WBo n o w a bs'->(bs'++B i).length<=iY->RetW Tryz.prog O (.func (.func g) first []) [.agg (c i)] n low o w a (bs'++B i)):
 RetW Tryz.prog O (.func (.func 84) [] []) [.ptr w 0 0,av,.func (.func g) first []] n0 low0 o0 w a0 (bs++bL m++(List.range m).flatMap B):=by
 have hw':=hw.1
 have hll:=ha.2
 refine RetW.run (first:=[]) (args:=[.ptr w 0 0,av,.func (.func g) first []]) (cap:=[]) aL (ho' _ _) (by kernel_rfl) Tryz.func84 Tryz.ntmps84 Tryz.results84 rfl rfl hw' ?_
 show Wk _ _ _ _ ⟨22,none,84,Tr.leaf.lay 0 [.ptr w 0 0,av,.func (.func g) first []],[],⟨n0,n0,o0⟩,.no⟩ _
 simp +contextual +decide (maxSteps:=1000000) only [↓ wP,wQ,tf,ne_eq,ha.len,hlen,ho,aP]
 refine bQ (ho _ _) ((jN ho n0 n0 o0 w a0 bs m (by omega) (by rw [List.length_append]at hb;rw [<-List.length_append];omega) hw).wcall fun n1 low1 o1 a1 hl1 hw1 hf1=>?_)
 rw [aI]
 show cN _ _ _ _ _ _ _ (.val' _ ⟨n1,low1,o1⟩)
 simp +contextual +decide (maxSteps:=1000000) only [↓ wP,wQ,tf,ne_eq,ha.len,hlen]
 refine bE (fun i e=>∃ t n low o a,e=⟨22,none,84,t,[],⟨n,low,o⟩,.no⟩/\t.val 2=.func (.func g) first []/\t.val 12=av/\t.val 13=.int .i64 (m:Nat)/\t.val 14=.int .i64 (i:Nat)/\i<=m/\low<=w/\WBo n o w a (bs++bL m++(List.range i).flatMap B)/\FrW n0 o0 w a0 n o a) (fun i=>m-i) 0
  ⟨_,n1,low1,o1,a1,rfl,by simp +decide only [↓ aB,dJ,cL],by simp +decide only [↓ aB],by simp +decide only [↓ aB],by simp +decide only [↓ aB];rfl,Nat.zero_le _,hl1,by simpa using hw1,hf1⟩ ?_
 rintro i _ ⟨t,n,low,o,a,rfl,t2,t12,t13,t14,hi,hlow,hwi,hfi⟩
 by_cases hlt:i<m
 ·have d1:((i:Int)<(m:Nat))=True:=eq_true (by omega)
  have d5:=aJ (i:=i) (by omega)
  have x1:=fun {q d}=>hix i hlt (q:=q) (d:=d)
  have x2:=hcl i hlt
  have x3:=hcc i hlt
  have x4:=h i hlt
  have hz:0+2<=(c i).length:=by omega
  have hsl:aG (c i) 0 2=c i:=by unfold aG;rw [List.drop_zero,List.take_of_length_le (by omega)]
  have hrs:(List.range (i+1)).flatMap B=(List.range i).flatMap B++B i:=by rw [List.range_succ,List.flatMap_append];simp
  have hle:(bs++bL m++(List.range i).flatMap B++B i).length<=iY:=by
   have:((List.range (i+1)).flatMap B).length<=((List.range m).flatMap B).length:=by
    obtain ⟨k,rfl⟩:=Nat.exists_eq_add_of_le (show i+1<=m from hlt)
    rw [@List.range_add (i+1) k,List.flatMap_append,List.length_append];omega
   rw [hrs]at this
   simp only [List.length_append]at hb this ⊢;omega
  generalize c i=cs at *
  have f1:=bA hwi.1
  have f2:=bA hwi.2.1
  simp +contextual +decide (maxSteps:=1000000) only [↓ wP,wQ,tf,Nat.reduceAdd,ne_eq,ha.idx,t2,t12,t13,t14,d1,x1,x2,x3,hsl,cS]
  have hwi':WBo (n+1) ((o.set n (aU 0 [.int .i64 0,.int .i64 0])).set n (aU 0 cs)) w a (bs++bL m++(List.range i).flatMap B):=by
   obtain ⟨q1,q2,q3⟩:=hwi
   refine ⟨by omega,by omega,?_⟩
   rcases q3 with ⟨k1,k2,k3⟩ | ⟨k1,g',k2,k3,k4⟩
   ·exact .inl ⟨k1,by rw [Tr.get_set_ne _ _ (by omega),Tr.get_set_ne _ _ (by omega)];exact k2,k3⟩
   ·exact .inr ⟨k1,g',by rw [Tr.get_set_ne _ _ (by omega),Tr.get_set_ne _ _ (by omega)];exact k2,by rw [Tr.get_set_ne _ _ (by omega),Tr.get_set_ne _ _ (by omega)];exact k3,k4⟩
  refine VT ((x4 (n+1) _ _ a _ hwi' hle).wcall fun n2 low2 o2 a2 hl2 hw2 hf2=>?_)
  rw [aI]
  show cN _ _ _ _ _ _ _ (.val' _ ⟨n2,low2,o2⟩)
  simp +contextual +decide (maxSteps:=1000000) only [↓ wP,wQ,ne_eq,t14,d5]
  refine ⟨i+1,by show _-_<_-_;omega,_,n2,low2,o2,a2,rfl,by simp +decide only [↓ aB,t2],by simp +decide only [↓ aB,t12],by simp +decide only [↓ aB,t13],by simp +decide only [↓ aB],hlt,hl2,by rw [hrs,<-List.append_assoc];exact hw2,hfi.trans ⟨?_,?_,fun id q1 q2 q3=>?_⟩⟩
  ·have:=hf2.1;omega
  ·have:=hf2.2.1;omega
  ·rw [hf2.2.2 id (by omega) q2 q3,Tr.get_set_ne _ _ (by omega),Tr.get_set_ne _ _ (by omega)]
 ·have:i=m:=by omega
  subst this
  have d1:(((i:Nat):Int)<(i:Nat))=False:=eq_false (by omega)
  simp +contextual +decide (maxSteps:=1000000) only [↓ wP,wQ,t13,t14,d1,kM]
  exact ⟨a,hlow,hwi,hfi⟩
set_option maxHeartbeats 1000000 in
theorem YQ {O:bX} (ho:∀ a σ,O 108 a σ=none) (ho':∀ a σ,O 86 a σ=none) (n0 low0:Nat) (o0:Tr AObj) (w a0:Nat) (bs:List Nat) (hw:WBo n0 o0 w a0 bs) (g:FuncId) (first:List AV)
 (av:AV) (xs:List AV) (ha:Sl av xs) (m:Nat) (hlen:xs.length=m) (c:Nat->List AV) (hix:∀ i,i<m->∀ {q:IntKind} {d:Option AV},fK (some 3) xs (.int q (i:Nat)) d=some (.pf (.agg (c i)))) (hcl:∀ i,i<m->(c i).length=3) (hcc:∀ i,i<m->(c i).all AV.isCell=true)
 (B:Nat->List Nat) (hb:(bs++bL m++(List.range m).flatMap B).length<=iY)
 (h:∀ i,i<m->∀ n low o a bs',WBo n o w a bs'->(bs'++B i).length<=iY->RetW Tryz.prog O (.func (.func g) first []) [.agg (c i)] n low o w a (bs'++B i)):
 RetW Tryz.prog O (.func (.func 86) [] []) [.ptr w 0 0,av,.func (.func g) first []] n0 low0 o0 w a0 (bs++bL m++(List.range m).flatMap B):=by
 have hw':=hw.1
 have hll:=ha.2
 refine RetW.run (first:=[]) (args:=[.ptr w 0 0,av,.func (.func g) first []]) (cap:=[]) aL (ho' _ _) (by kernel_rfl) Tryz.func86 Tryz.ntmps86 Tryz.results86 rfl rfl hw' ?_
 show Wk _ _ _ _ ⟨22,none,86,Tr.leaf.lay 0 [.ptr w 0 0,av,.func (.func g) first []],[],⟨n0,n0,o0⟩,.no⟩ _
 simp +contextual +decide (maxSteps:=1000000) only [↓ wP,wQ,tf,ne_eq,ha.len,hlen,ho,aP]
 refine bQ (ho _ _) ((jN ho n0 n0 o0 w a0 bs m (by omega) (by rw [List.length_append]at hb;rw [<-List.length_append];omega) hw).wcall fun n1 low1 o1 a1 hl1 hw1 hf1=>?_)
 rw [aI]
 show cN _ _ _ _ _ _ _ (.val' _ ⟨n1,low1,o1⟩)
 simp +contextual +decide (maxSteps:=1000000) only [↓ wP,wQ,tf,ne_eq,ha.len,hlen]
 refine bE (fun i e=>∃ t n low o a,e=⟨22,none,86,t,[],⟨n,low,o⟩,.no⟩/\t.val 2=.func (.func g) first []/\t.val 12=av/\t.val 13=.int .i64 (m:Nat)/\t.val 14=.int .i64 (i:Nat)/\i<=m/\low<=w/\WBo n o w a (bs++bL m++(List.range i).flatMap B)/\FrW n0 o0 w a0 n o a) (fun i=>m-i) 0
  ⟨_,n1,low1,o1,a1,rfl,by simp +decide only [↓ aB,dJ,cL],by simp +decide only [↓ aB],by simp +decide only [↓ aB],by simp +decide only [↓ aB];rfl,Nat.zero_le _,hl1,by simpa using hw1,hf1⟩ ?_
 rintro i _ ⟨t,n,low,o,a,rfl,t2,t12,t13,t14,hi,hlow,hwi,hfi⟩
 by_cases hlt:i<m
 ·have d1:((i:Int)<(m:Nat))=True:=eq_true (by omega)
  have d5:=aJ (i:=i) (by omega)
  have x1:=fun {q d}=>hix i hlt (q:=q) (d:=d)
  have x2:=hcl i hlt
  have x3:=hcc i hlt
  have x4:=h i hlt
  have hz:0+3<=(c i).length:=by omega
  have hsl:aG (c i) 0 3=c i:=by unfold aG;rw [List.drop_zero,List.take_of_length_le (by omega)]
  have hrs:(List.range (i+1)).flatMap B=(List.range i).flatMap B++B i:=by rw [List.range_succ,List.flatMap_append];simp
  have hle:(bs++bL m++(List.range i).flatMap B++B i).length<=iY:=by
   have:((List.range (i+1)).flatMap B).length<=((List.range m).flatMap B).length:=by
    obtain ⟨k,rfl⟩:=Nat.exists_eq_add_of_le (show i+1<=m from hlt)
    rw [@List.range_add (i+1) k,List.flatMap_append,List.length_append];omega
   rw [hrs]at this
   simp only [List.length_append]at hb this ⊢;omega
  generalize c i=cs at *
  have f1:=bA hwi.1
  have f2:=bA hwi.2.1
  simp +contextual +decide (maxSteps:=1000000) only [↓ wP,wQ,tf,Nat.reduceAdd,ne_eq,ha.idx,t2,t12,t13,t14,d1,x1,x2,x3,hsl,cS]
  have hwi':WBo (n+1) ((o.set n (aU 0 [.int .i64 0,.nils,.nils])).set n (aU 0 cs)) w a (bs++bL m++(List.range i).flatMap B):=by
   obtain ⟨q1,q2,q3⟩:=hwi
   refine ⟨by omega,by omega,?_⟩
   rcases q3 with ⟨k1,k2,k3⟩ | ⟨k1,g',k2,k3,k4⟩
   ·exact .inl ⟨k1,by rw [Tr.get_set_ne _ _ (by omega),Tr.get_set_ne _ _ (by omega)];exact k2,k3⟩
   ·exact .inr ⟨k1,g',by rw [Tr.get_set_ne _ _ (by omega),Tr.get_set_ne _ _ (by omega)];exact k2,by rw [Tr.get_set_ne _ _ (by omega),Tr.get_set_ne _ _ (by omega)];exact k3,k4⟩
  refine VT ((x4 (n+1) _ _ a _ hwi' hle).wcall fun n2 low2 o2 a2 hl2 hw2 hf2=>?_)
  rw [aI]
  show cN _ _ _ _ _ _ _ (.val' _ ⟨n2,low2,o2⟩)
  simp +contextual +decide (maxSteps:=1000000) only [↓ wP,wQ,ne_eq,t14,d5]
  refine ⟨i+1,by show _-_<_-_;omega,_,n2,low2,o2,a2,rfl,by simp +decide only [↓ aB,t2],by simp +decide only [↓ aB,t12],by simp +decide only [↓ aB,t13],by simp +decide only [↓ aB],hlt,hl2,by rw [hrs,<-List.append_assoc];exact hw2,hfi.trans ⟨?_,?_,fun id q1 q2 q3=>?_⟩⟩
  ·have:=hf2.1;omega
  ·have:=hf2.2.1;omega
  ·rw [hf2.2.2 id (by omega) q2 q3,Tr.get_set_ne _ _ (by omega),Tr.get_set_ne _ _ (by omega)]
 ·have:i=m:=by omega
  subst this
  have d1:(((i:Nat):Int)<(i:Nat))=False:=eq_false (by omega)
  simp +contextual +decide (maxSteps:=1000000) only [↓ wP,wQ,t13,t14,d1,kM]
  exact ⟨a,hlow,hwi,hfi⟩
end
end Go.Proofs.YtajngkkihadgfaaGreat
/-
 The program of images: the bytes of an object.
-/
namespace Go.Proofs.YtajngkkihadgfaaGreat
open Go.Abs Go Go.Abs.TryzF
noncomputable section
set_option maxRecDepth 10000
set_option maxHeartbeats 1000000 in
theorem YR {O:bX} (ho:∀ a σ,O 108 a σ=none) (ho':∀ a σ,O 83 a σ=none) (ho1:∀ a σ,O 85 a σ=none) (n0 low0:Nat) (o0:Tr AObj) (w a0:Nat) (bs:List Nat) (v:eZ) (hv:jC v=true) (hb:(bs++nZ v).length<=iY) (hw:WBo n0 o0 w a0 bs):
 RetW Tryz.prog O (.func (.func 85) [.ptr w 0 0] []) [eH v] n0 low0 o0 w a0 (bs++nZ v):=by
 obtain ⟨hwn,han,hcase⟩:=hw
 obtain ⟨q1,q2,q3⟩:=KV hv
 obtain ⟨k,m⟩:=v
 simp only at q1 q2 q3
 refine RetW.run (first:=[.ptr w 0 0]) (args:=[eH (k,m)]) (cap:=[]) aL (ho1 _ _) (by kernel_rfl) Tryz.func85 Tryz.ntmps85 Tryz.results85 rfl rfl hwn ?_
 show Wk _ _ _ _ ⟨20,none,85,Tr.leaf.lay 0 [.ptr w 0 0,.agg [.int .i64 k,.int .i64 m]],[],⟨n0,n0,o0⟩,.no⟩ _
 have f1:=bA hwn
 have f2:=bA han
 have e3:=KU (a:=k) (by omega)
 have hvb:nZ (k,m)=(k.toNat%256)::dY m:=rfl
 rw [hvb]at hb ⊢
 simp only [List.length_append,List.length_cons,iY]at hb
 have hbs:bs++(k.toNat%256)::dY m=(bs++[k.toNat%256])++dY m:=by simp
 rw [hbs]
 have hsmall:2*(bs.length+1)+1024<=281474976710656/\bs.length+1<4611686018427387904:=⟨by omega,by omega⟩
 have hb2:((bs++[k.toNat%256])++dY m).length<=iY:=by simp only [List.length_append,List.length_cons,List.length_nil,iY];omega
 rcases hcase with ⟨rfl,hg,rfl⟩ | ⟨hne,g,hg,hga,haw⟩
 ·simp +contextual +decide (maxSteps:=1000000) only [↓ wP,wQ,tf,Nat.reduceAdd,ne_eq,hg,f1,e3,cS,Nat.mul_one,Nat.zero_add,ho',aP]
  refine bQ (ho' _ _) ((kN ho ho' (n0+1+1+1) _ _ a0 (n0+1+1) ([]++[k.toNat%256]) m q1 hb2 ⟨by omega,by omega,.inr ⟨by simp,0,?_,?_,by omega⟩⟩).wcall fun n1 low1 o1 a1 hl1 hw1 hf1=>?_)
  ·simp +contextual +decide (maxSteps:=1000000) only [↓ wP,wQ,Nat.reduceAdd]
  ·simp +contextual +decide (maxSteps:=1000000) only [↓ wP,wQ,ne_eq,f1]
   rfl
  ·rw [aI]
   show cN _ _ _ _ _ _ _ (.val' _ ⟨n1,low1,o1⟩)
   simp +contextual +decide (maxSteps:=1000000) only [↓ wP,wQ,kM]
   refine ⟨a1,hl1,hw1,?_,?_,fun id p1 p2 p3=>?_⟩
   ·have:=hf1.1;omega
   ·have:=hf1.2.1;omega
   ·have f5:=bA p1
    rw [hf1.2.2 id (by omega) p2 (by omega)]
    simp +decide only [↓ aB,f5,p2,ne_eq]
 ·have f3:a0≠w/\w≠a0:=⟨haw,fun h=>haw h.symm⟩
  have hl1:(bs.map encB).length=bs.length:=List.length_map _
  simp +contextual +decide (maxSteps:=1000000) only [↓ wP,wQ,tf,Nat.reduceAdd,ne_eq,hg,hga,f1,f2,f3,e3,cS,hl1,hsmall,Nat.mul_one,Nat.zero_add,ho',aP]
  refine bQ (ho' _ _) ((kN ho ho' (n0+1+1) _ _ w a0 (bs++[k.toNat%256]) m q1 hb2 ⟨by omega,by omega,.inr ⟨by simp,g+1,?_,?_,haw⟩⟩).wcall fun n1 low1 o1 a1 hl1 hw1 hf1=>?_)
  ·simp +contextual +decide (maxSteps:=1000000) only [↓ wP,wQ,Nat.reduceAdd,List.length_append]
  ·simp +contextual +decide (maxSteps:=1000000) only [↓ wP,wQ,ne_eq,f3]
   rw [List.map_append];rfl
  ·rw [aI]
   show cN _ _ _ _ _ _ _ (.val' _ ⟨n1,low1,o1⟩)
   simp +contextual +decide (maxSteps:=1000000) only [↓ wP,wQ,kM]
   refine ⟨a1,hl1,hw1,?_,?_,fun id p1 p2 p3=>?_⟩
   ·have:=hf1.1;omega
   ·have:=hf1.2.1;omega
   ·have f5:=bA p1
    rw [hf1.2.2 id (by omega) p2 p3]
    simp +decide only [↓ aB,f5,p2,p3,ne_eq]
theorem VU (n:Int):By (dY n):=kG _
theorem dB {a b:List Nat} (h:By a) (h':By b):By (a++b):=fun x hx=>(List.mem_append.1 hx).elim (h x) (h' x)
theorem sJ {α:Type} {f:α->List Nat} {l:List α} (h:∀ x,By (f x)):By (l.flatMap f):=fun x hx=>by
 obtain ⟨y,_,hy⟩:=List.mem_flatMap.1 hx
 exact h y x hy
theorem VV {c:Nat} {l:List Nat} (hc:c<256) (h:By l):By (c::l):=fun x hx=>by
 rcases List.mem_cons.1 hx with rfl | hx
 ·exact hc
 ·exact h x hx
theorem aHv (v:eZ):By (nZ v):=VV (Nat.mod_lt _ (by omega)) (VU _)
theorem EQ (l:List eZ):By (eX l):=dB (kG _) (sJ aHv)
theorem aLr (f:Fr):By (vD f):=dB (dB (kG _) (EQ _)) (EQ _)
theorem aDi (o:Ob):By (nG o):=VV (Nat.mod_lt _ (by omega)) (dB (dB (dB (VU _) (EQ _)) (kG _)) (sJ aLr))
theorem pD {α:Type} [Inhabited α] (l:List α) (f:α->List Nat):(List.range l.length).flatMap (fun i=>f (l.getD i default))=l.flatMap f:=by
 have:∀ k,k<=l.length->(List.range k).flatMap (fun i=>f (l.getD i default))=(l.take k).flatMap f:=by
  intro k
  induction k with
  | zero=>intro _;rfl
  | succ k ih=>
    intro hk
    rw [List.range_succ,List.flatMap_append,ih (by omega),gK (d:=default) (by omega),List.flatMap_append];simp
 rw [this _ (Nat.le_refl _),List.take_length]
abbrev ON (O:bX):Prop:=(∀ a σ,O 108 a σ=none)/\(∀ a σ,O 83 a σ=none)/\(∀ a σ,O 85 a σ=none)/\(∀ a σ,O 84 a σ=none)/\(∀ a σ,O 87 a σ=none)/\(∀ a σ,O 86 a σ=none)/\(∀ a σ,O 37 a σ=none)
theorem yL {O:bX} (ho:ON O) (n0 low0:Nat) (o0:Tr AObj) (w a0:Nat) (bs:List Nat) (hw:WBo n0 o0 w a0 bs) (av:AV) (l:List eZ) (ha:bR av=some l) (hok:dH l=true) (hb:(bs++eX l).length<=iY):
 RetW Tryz.prog O (.func (.func 84) [] []) [.ptr w 0 0,av,.func (.func 85) [.ptr w 0 0] []] n0 low0 o0 w a0 (bs++eX l):=by
 have hall:=(mN hok).2
 have e1:=pD l nZ
 have:=YP ho.1 ho.2.2.2.1 n0 low0 o0 w a0 bs hw 85 [.ptr w 0 0] av _ (cY ha) l.length (by simp) (fun i=>yM (l.getD i default)) (fun i hi {q d}=>aLp l hi) (fun _ _=>rfl) (fun _ _=>rfl) (fun i=>nZ (l.getD i default)) (by rw [e1,List.append_assoc];exact hb)
  (fun i hi n low o a bs' hw' hb'=>YR ho.1 ho.2.1 ho.2.2.1 n low o w a bs' (l.getD i default) (hall _ (by rw [bZ hi];exact List.getElem_mem _)) hb' hw')
 rw [e1,List.append_assoc]at this
 exact this
set_option maxHeartbeats 1000000 in
theorem YS {O:bX} (ho:ON O) (n0 low0:Nat) (o0:Tr AObj) (w a0:Nat) (bs:List Nat) (hw:WBo n0 o0 w a0 bs) (cs:List AV) (f:Fr) (hf:tZ (.agg cs)=some f) (hok:nF f=true) (hb:(bs++vD f).length<=iY):
 RetW Tryz.prog O (.func (.func 87) [.ptr w 0 0] []) [.agg cs] n0 low0 o0 w a0 (bs++vD f):=by
 obtain ⟨e,v,he0,he,hv⟩:=mM hf
 cases he0
 obtain ⟨k1,k2,k3,k4⟩:=yO hok
 have ce:=aX he
 have cv:=aX hv
 have hwn:=hw.1
 obtain ⟨nd,hnd⟩:∃ m:Nat,f.node=(m:Int):=⟨f.node.toNat,by omega⟩
 have hfb:bs++vD f=bs++bL nd++eX f.env++eX f.vals:=by rw [vD,hnd];simp
 rw [hfb]at hb ⊢
 have hb1:(bs++bL nd++eX f.env).length<=iY:=by rw [List.length_append]at hb;omega
 have hb0:bs.length+(bL nd).length<=iY:=by rw [List.length_append,List.length_append]at hb1;omega
 refine RetW.run (first:=[.ptr w 0 0]) (args:=[.agg [.int .i64 f.node,e,v]]) (cap:=[]) aL (ho.2.2.2.2.1 _ _) (by kernel_rfl) Tryz.func87 Tryz.ntmps87 Tryz.results87 rfl rfl hwn ?_
 show Wk _ _ _ _ ⟨20,none,87,Tr.leaf.lay 0 [.ptr w 0 0,.agg [.int .i64 f.node,e,v]],[],⟨n0,n0,o0⟩,.no⟩ _
 rw [hnd]
 have f1:=bA hwn
 simp +contextual +decide (maxSteps:=1000000) only [↓ wP,wQ,tf,Nat.reduceAdd,ne_eq,ce,cv,cS,ho.1,aP]
 have hw0:WBo (n0+1) (o0.set n0 (aU 0 [.int .i64 (nd:Nat),e,v])) w a0 bs:=by
  obtain ⟨q1,q2,q3⟩:=hw
  refine ⟨by omega,by omega,?_⟩
  rcases q3 with ⟨k1,k2,k3⟩ | ⟨k1,g',k2,k3,k4⟩
  ·exact .inl ⟨k1,by rw [Tr.get_set_ne _ _ (by omega)];exact k2,k3⟩
  ·exact .inr ⟨k1,g',by rw [Tr.get_set_ne _ _ (by omega)];exact k2,by rw [Tr.get_set_ne _ _ (by omega)];exact k3,k4⟩
 have han:=hw.2.1
 refine bQ (ho.1 _ _) ((jN ho.1 (n0+1) _ _ w a0 bs nd (by omega) hb0 hw0).wcall fun n1 low1 o1 a1 hl1 hw1 hf1=>?_)
 rw [aI]
 show cN _ _ _ _ _ _ _ (.val' _ ⟨n1,low1,o1⟩)
 have g1:o1.get n0=some (aU 0 [.int .i64 (nd:Nat),e,v]):=by rw [hf1.2.2 n0 (by omega) (by omega) (by omega),Tr.get_set_same]
 have h1:=hf1.1
 have h2:=hf1.2.1
 have f2:=bA (show n0<n1 by omega)
 simp +contextual +decide (maxSteps:=1000000) only [↓ wP,wQ,tf,Nat.reduceAdd,ne_eq,g1,f2,ho.2.2.2.1,aP]
 refine bQ (ho.2.2.2.1 _ _) ((yL ho n1 _ _ w a1 (bs++bL nd) hw1 e f.env he k3 hb1).wcall fun n2 low2 o2 a2 hl2 hw2 hf2=>?_)
 rw [aI]
 show cN _ _ _ _ _ _ _ (.val' _ ⟨n2,low2,o2⟩)
 have h3:=hf2.1
 have h4:=hf2.2.1
 have g2:o2.get n0=some (aU 0 [.int .i64 (nd:Nat),e,v]):=by rw [hf2.2.2 n0 (by omega) (by omega) (by omega)];exact g1
 have f3:=bA (show n0<n2 by omega)
 simp +contextual +decide (maxSteps:=1000000) only [↓ wP,wQ,tf,Nat.reduceAdd,ne_eq,g2,f3,ho.2.2.2.1,aP]
 refine bQ (ho.2.2.2.1 _ _) ((yL ho n2 _ _ w a2 (bs++bL nd++eX f.env) hw2 v f.vals hv k4 hb).wcall fun n3 low3 o3 a3 hl3 hw3 hf3=>?_)
 rw [aI]
 show cN _ _ _ _ _ _ _ (.val' _ ⟨n3,low3,o3⟩)
 simp +contextual +decide (maxSteps:=1000000) only [↓ wP,wQ,kM]
 refine ⟨a3,hl3,hw3,?_,?_,fun id p1 p2 p3=>?_⟩
 ·have:=hf3.1;omega
 ·have:=hf3.2.1;omega
 ·rw [hf3.2.2 id (by omega) p2 (by omega),hf2.2.2 id (by omega) p2 (by omega),hf1.2.2 id (by omega) p2 p3,Tr.get_set_ne _ _ (by omega)]
theorem VW {O:bX} (ho:ON O) (n0 low0:Nat) (o0:Tr AObj) (w a0:Nat) (bs:List Nat) (hw:WBo n0 o0 w a0 bs) (av:AV) (l:List Fr) (ha:nO av=some l) (hok:∀ f∈l,nF f=true) (hb:(bs++(bL l.length++l.flatMap vD)).length<=iY):
 RetW Tryz.prog O (.func (.func 86) [] []) [.ptr w 0 0,av,.func (.func 87) [.ptr w 0 0] []] n0 low0 o0 w a0 (bs++(bL l.length++l.flatMap vD)):=by
 obtain ⟨xs,c,h1,h2,h3⟩:=AO ha
 have e1:=pD l vD
 have:=YQ ho.1 ho.2.2.2.2.2.1 n0 low0 o0 w a0 bs hw 87 [.ptr w 0 0] av xs h1 l.length h2 c (fun i hi {q d}=>(h3 i hi).1) (fun i hi=>(h3 i hi).2.1) (fun i hi=>(h3 i hi).2.2.1) (fun i=>vD (l.getD i default)) (by rw [e1,List.append_assoc];exact hb)
  (fun i hi n low o a bs' hw' hb'=>YS ho n low o w a bs' hw' (c i) (l.getD i default) (h3 i hi).2.2.2 (hok _ (by rw [bZ hi];exact List.getElem_mem _)) hb')
 rw [e1,List.append_assoc]at this
 exact this
set_option maxHeartbeats 2000000 in
theorem ET {O:bX} (ho:ON O) (n0 low0:Nat) (o0:Tr AObj) (w a0:Nat) (bs:List Nat) (hw:WBo n0 o0 w a0 bs) (av:AV) (x:Ob) (hx:dQ av=some x) (hok:fY x=true) (hb:(bs++nG x).length<=iY):
 RetW Tryz.prog O (.func (.func 37) [] []) [.ptr w 0 0,av] n0 low0 o0 w a0 (bs++nG x):=by
 obtain ⟨vs,fs,rfl,hvs,hfs⟩:=fH hx
 have cv:=aX hvs
 have cf:=jO hfs
 obtain ⟨⟨k1,k2⟩,k3,k4,k5,k6⟩:=tV hok
 obtain ⟨hwn,han,hcase⟩:=hw
 have hobB:bs++nG x=bs++[x.form.toNat%256]++dY x.n++eX x.vals++(bL x.frs.length++x.frs.flatMap vD):=by simp [nG]
 rw [hobB]at hb ⊢
 have hb3:(bs++[x.form.toNat%256]++dY x.n++eX x.vals).length<=iY:=by rw [List.length_append]at hb;omega
 have hb2:(bs++[x.form.toNat%256]++dY x.n).length<=iY:=by rw [List.length_append]at hb3;omega
 have hb1:bs.length+1<=1099511627776:=by simp only [List.length_append,List.length_cons,List.length_nil,iY]at hb2;omega
 refine RetW.run (first:=[]) (args:=[.ptr w 0 0,.agg [.int .i64 x.form,.int .i64 x.n,vs,fs]]) (cap:=[]) aL (ho.2.2.2.2.2.2 _ _) (by kernel_rfl) Tryz.func37 Tryz.ntmps37 Tryz.results37 rfl rfl hwn ?_
 show Wk _ _ _ _ ⟨32,none,37,Tr.leaf.lay 0 [.ptr w 0 0,.agg [.int .i64 x.form,.int .i64 x.n,vs,fs]],[],⟨n0,n0,o0⟩,.no⟩ _
 have f1:=bA hwn
 have f2:=bA han
 have e3:=KU (a:=x.form) (by omega)
 have hsmall:2*(bs.length+1)+1024<=281474976710656/\bs.length+1<4611686018427387904:=⟨by omega,by omega⟩
 rcases hcase with ⟨rfl,hg,rfl⟩ | ⟨hne,g,hg,hga,haw⟩
 ·simp +contextual +decide (maxSteps:=1000000) only [↓ wP,wQ,tf,Nat.reduceAdd,ne_eq,hg,f1,e3,cS,cv,cf,Nat.mul_one,Nat.zero_add,ho.2.1,aP]
  refine bQ (ho.2.1 _ _) ((kN ho.1 ho.2.1 (n0+1+1+1) _ _ a0 (n0+1+1) ([]++[x.form.toNat%256]) x.n k3 hb2 ⟨by omega,by omega,.inr ⟨by simp,0,?_,?_,by omega⟩⟩).wcall fun n1 low1 o1 a1 hl1 hw1 hf1=>?_)
  ·simp +contextual +decide (maxSteps:=1000000) only [↓ wP,wQ,Nat.reduceAdd]
  ·simp +contextual +decide (maxSteps:=1000000) only [↓ wP,wQ,ne_eq,f1]
   rfl
  ·rw [aI]
   show cN _ _ _ _ _ _ _ (.val' _ ⟨n1,low1,o1⟩)
   have h1:=hf1.1
   have h2:=hf1.2.1
   have g1:o1.get n0=some (aU 0 [.int .i64 x.form,.int .i64 x.n,vs,fs]):=by
    rw [hf1.2.2 n0 (by omega) (by omega) (by omega)]
    simp +contextual +decide (maxSteps:=1000000) only [↓ wP,wQ,ne_eq,f1,cS]
   have f4:=bA (show n0<n1 by omega)
   simp +contextual +decide (maxSteps:=1000000) only [↓ wP,wQ,tf,Nat.reduceAdd,ne_eq,g1,f4,ho.2.2.2.1,aP]
   refine bQ (ho.2.2.2.1 _ _) ((yL ho n1 _ _ a0 a1 _ hw1 vs x.vals hvs k4 hb3).wcall fun n2 low2 o2 a2 hl2 hw2 hf2=>?_)
   rw [aI]
   show cN _ _ _ _ _ _ _ (.val' _ ⟨n2,low2,o2⟩)
   have h3:=hf2.1
   have h4:=hf2.2.1
   have g2:o2.get n0=some (aU 0 [.int .i64 x.form,.int .i64 x.n,vs,fs]):=by rw [hf2.2.2 n0 (by omega) (by omega) (by omega)];exact g1
   have f5:=bA (show n0<n2 by omega)
   simp +contextual +decide (maxSteps:=1000000) only [↓ wP,wQ,tf,Nat.reduceAdd,ne_eq,g2,f5,ho.2.2.2.2.2.1,aP]
   refine bQ (ho.2.2.2.2.2.1 _ _) ((VW ho n2 _ _ a0 a2 _ hw2 fs x.frs hfs k6 hb).wcall fun n3 low3 o3 a3 hl3 hw3 hf3=>?_)
   rw [aI]
   show cN _ _ _ _ _ _ _ (.val' _ ⟨n3,low3,o3⟩)
   simp +contextual +decide (maxSteps:=1000000) only [↓ wP,wQ,kM]
   refine ⟨a3,hl3,hw3,?_,?_,fun id p1 p2 p3=>?_⟩
   ·have:=hf3.1;omega
   ·have:=hf3.2.1;omega
   ·have f6:=bA p1
    rw [hf3.2.2 id (by omega) p2 (by omega),hf2.2.2 id (by omega) p2 (by omega),hf1.2.2 id (by omega) p2 (by omega)]
    simp +decide only [↓ aB,f6,p2,ne_eq]
 ·have f3:a0≠w/\w≠a0:=⟨haw,fun h=>haw h.symm⟩
  have hl1:(bs.map encB).length=bs.length:=List.length_map _
  simp +contextual +decide (maxSteps:=1000000) only [↓ wP,wQ,tf,Nat.reduceAdd,ne_eq,hg,hga,f1,f2,f3,e3,cS,cv,cf,hl1,hsmall,Nat.mul_one,Nat.zero_add,ho.2.1,aP]
  refine bQ (ho.2.1 _ _) ((kN ho.1 ho.2.1 (n0+1+1) _ _ w (a0) (bs++[x.form.toNat%256]) x.n k3 hb2 ⟨by omega,by omega,.inr ⟨by simp,g+1,?_,?_,haw⟩⟩).wcall fun n1 low1 o1 a1 hl1 hw1 hf1=>?_)
  ·simp +contextual +decide (maxSteps:=1000000) only [↓ wP,wQ,Nat.reduceAdd,List.length_append]
  ·simp +contextual +decide (maxSteps:=1000000) only [↓ wP,wQ,ne_eq,f3]
   rw [List.map_append];rfl
  ·rw [aI]
   show cN _ _ _ _ _ _ _ (.val' _ ⟨n1,low1,o1⟩)
   have h1:=hf1.1
   have h2:=hf1.2.1
   have g1:o1.get n0=some (aU 0 [.int .i64 x.form,.int .i64 x.n,vs,fs]):=by
    rw [hf1.2.2 n0 (by omega) (by omega) (by omega)]
    simp +contextual +decide (maxSteps:=1000000) only [↓ wP,wQ,ne_eq,f1,f2,cS]
   have f4:=bA (show n0<n1 by omega)
   simp +contextual +decide (maxSteps:=1000000) only [↓ wP,wQ,tf,Nat.reduceAdd,ne_eq,g1,f4,ho.2.2.2.1,aP]
   refine bQ (ho.2.2.2.1 _ _) ((yL ho n1 _ _ w a1 _ hw1 vs x.vals hvs k4 hb3).wcall fun n2 low2 o2 a2 hl2 hw2 hf2=>?_)
   rw [aI]
   show cN _ _ _ _ _ _ _ (.val' _ ⟨n2,low2,o2⟩)
   have h3:=hf2.1
   have h4:=hf2.2.1
   have g2:o2.get n0=some (aU 0 [.int .i64 x.form,.int .i64 x.n,vs,fs]):=by rw [hf2.2.2 n0 (by omega) (by omega) (by omega)];exact g1
   have f5:=bA (show n0<n2 by omega)
   simp +contextual +decide (maxSteps:=1000000) only [↓ wP,wQ,tf,Nat.reduceAdd,ne_eq,g2,f5,ho.2.2.2.2.2.1,aP]
   refine bQ (ho.2.2.2.2.2.1 _ _) ((VW ho n2 _ _ w a2 _ hw2 fs x.frs hfs k6 hb).wcall fun n3 low3 o3 a3 hl3 hw3 hf3=>?_)
   rw [aI]
   show cN _ _ _ _ _ _ _ (.val' _ ⟨n3,low3,o3⟩)
   simp +contextual +decide (maxSteps:=1000000) only [↓ wP,wQ,kM]
   refine ⟨a3,hl3,hw3,?_,?_,fun id p1 p2 p3=>?_⟩
   ·have:=hf3.1;omega
   ·have:=hf3.2.1;omega
   ·have f6:=bA p1
    rw [hf3.2.2 id (by omega) p2 (by omega),hf2.2.2 id (by omega) p2 (by omega),hf1.2.2 id (by omega) p2 (by omega)]
    simp +decide only [↓ aB,f6,p2,p3,ne_eq]
theorem objectV_ok:Abs.Ok Tryz.prog 9 yP:=by
 intro args v hg
 match args,hg with
 | [a],hg=>
   obtain ⟨o,ho,rfl⟩:=Option.map_eq_some_iff.1 hg
   have hua:=(lK ho).und
   have e1:=nY ho
   have ho0:=ho
   obtain ⟨vs,fs,rfl,hvs,hfs⟩:=fH ho
   have c1:=aX hvs
   have c2:=jO hfs
   refine aR (L:=[ent 36 iT]) (elist_cons formed_ok.ent aH) aL (by kernel_rfl) Tryz.func9 Tryz.ntmps9 Tryz.results9 rfl rfl (aC hua aE) (by split<;>exact aDp) ?_
   cases h:fY o with
   | false=>
     simp +contextual +decide (maxSteps:=1000000) only [↓ wP,wQ,tf,Nat.reduceAdd,ne_eq,c1,c2,e1,h]
     rfl
   | true=>
     have hON:ON (orcL [ent 36 iT]):=⟨fun _ _=>rfl,fun _ _=>rfl,fun _ _=>rfl,fun _ _=>rfl,fun _ _=>rfl,fun _ _=>rfl,fun _ _=>rfl⟩
     simp +contextual +decide (maxSteps:=1000000) only [↓ wP,wQ,tf,Nat.reduceAdd,ne_eq,c1,c2,e1,h,hON.2.2.2.2.2.2,aP]
     obtain ⟨⟨k1,k2⟩,k3,k4,k5,k6⟩:=tV h
     have hlen:(nG o).length<=20000:=by
      have l1:=jH k3
      have l2:=pG k4
      have l3:=dZ 1 o.frs.length (by omega) (by omega)
      have l4:(o.frs.flatMap vD).length<=40*375:=Nat.le_trans (eO (k:=375) _ fun x hx=>SU (k6 x hx)) (by omega)
      simp only [nG,List.length_cons,List.length_append];omega
     refine bQ (hON.2.2.2.2.2.2 _ _) ((ET hON 2 0 _ 1 1 [] ⟨by omega,by omega,.inl ⟨rfl,?_,rfl⟩⟩ _ o ho0 h (by rw [List.nil_append];unfold iY;omega)).wcall fun n1 low1 o1 a1 hl1 hw1 hf1=>?_)
     ·simp +contextual +decide (maxSteps:=1000000) only [↓ wP]
     ·rw [aI]
      show cN _ _ _ _ _ _ _ (.val' _ ⟨n1,low1,o1⟩)
      obtain ⟨q1,q2,q3⟩:=hw1
      rw [List.nil_append]at q3
      have hne:nG o≠[]:=by simp [nG]
      rcases q3 with ⟨k,_⟩ | ⟨_,g,q4,q5,q6⟩
      ·exact absurd k hne
      ·have f1:=bA q1
       have f2:=bA q2
       have hby:By (nG o):=aDi o
       have hcv:∀ {d:Option ORes},WE (some (aU g ((nG o).map encB))) g (nG o).length d=some (.val (.str (nG o))):=fun {d}=>AR rfl hby
       simp +contextual +decide (maxSteps:=1000000) only [↓ wP,wQ,tf,Nat.reduceAdd,ne_eq,f1,f2,q4,q5,fQ,hcv]
       rfl
end
end Go.Proofs.YtajngkkihadgfaaGreat
